/- Parts of this project: Asy, Ops, Mem, App, Tab, Mix, Sl, Step, BestS. -/
import Derived.Test.YtlchncheagigpaaGreatDoorTu01
import Derived.Laws.AppendOwn
import Derived.Laws.MakeOwn
import Derived.Laws.BytesArg
import Derived.Test.YtlchncheagigpaaGreatDoorProg
set_option maxHeartbeats 32000000
set_option linter.unusedSimpArgs false
set_option linter.unusedVariables false
set_option linter.unusedSectionVars false
section
set_option maxRecDepth 4000
namespace Go.Rn
open Go.RowKit

abbrev Pred := Value → World → Prop

inductive Ent where
 | val (v : Value)
 | sat (V : Pred)
 | wri (V : Pred)
 | pre (V : Pred)
def Ent.isMut : Ent → Bool
 | .wri _ => true
 | _ => false

def Ent.Holds : Ent → Value → World → Prop
 | .val u, v, _ => v = u
 | .sat V, v, w => V v w
 | .wri V, v, w => V v w
 | .pre V, v, w => V v w

structure Know where
 env : Env
 sats : List (Nat × Pred)
 ph : Option (Option Nat × Pred)
 mu : List Bool
 pres : List (Nat × Pred)

def Env.del (env : Env) : Option Nat → Env
 | none => env
 | some d => env.filter fun e => !(Nat.beq e.1 d)

def Know.add (s : Know) (dst : Option Nat) : Ent → Know
 | .val v => { s with env := s.env.put dst v, mu := false :: s.mu }
 | .sat V => { s with env := s.env.del dst, sats := (match dst with | some d => (d, V) :: s.sats | none => s.sats), mu := false :: s.mu }
 | .wri V => { s with env := s.env.del dst, ph := some (dst, V), mu := true :: s.mu }
 | .pre V => { s with env := s.env.del dst, pres := (match dst with | some d => (d, V) :: s.pres | none => s.pres), mu := false :: s.mu }

theorem Env.del_get {env : Env} {d : Option Nat} {t : Nat} {v : Value} (h : (env.del d).get t = some v) : env.get t = some v ∧ d ≠ some t := by
 cases d with
 | none => exact ⟨h, by simp⟩
 | some d =>
  unfold Env.del at h
  simp only at h
  induction env with
  | nil => simp [Env.get] at h
  | cons e r ih =>
   obtain ⟨k, u⟩ := e
   simp only [List.filter_cons] at h
   by_cases hk : k = d
   ·subst hk
    simp only [Nat.beq_refl, Bool.not_true, Bool.false_eq_true, if_false] at h
    obtain ⟨h1, h2⟩ := ih h
    refine ⟨?_, h2⟩
    rw [Env.get_cons_ne (by intro e; exact h2 (by rw [e]))]; exact h1
   ·have hb : Nat.beq k d = false := by cases hq : Nat.beq k d; rfl; exact absurd (Nat.eq_of_beq_eq_true hq) hk
    simp only [hb, Bool.not_false, if_true] at h
    by_cases hkt : k = t
    ·subst hkt
     rw [Env.get_cons_same] at h ⊢
     exact ⟨h, by intro e; exact hk (by injection e with e; exact e.symm)⟩
    ·rw [Env.get_cons_ne hkt] at h ⊢
     exact ih h

theorem Env.put_get {env : Env} {d : Option Nat} {t : Nat} {v u : Value} (h : (env.put d u).get t = some v) : (d = some t ∧ v = u) ∨ (d ≠ some t ∧ env.get t = some v) := by
 cases d with
 | none => exact .inr ⟨by simp, h⟩
 | some d =>
  unfold Env.put at h
  by_cases hd : d = t
  ·subst hd; simp only [Env.get_cons_same] at h; injection h with h; exact .inl ⟨rfl, h.symm⟩
  ·simp only [Env.get_cons_ne hd] at h; exact .inr ⟨by intro e; exact hd (by injection e), h⟩

def isSel : Op → Bool
 | .select .. => true
 | _ => false

structure Goes (ops : Array Oper) (s : Know) (o : Oper) (w' : World) (ρ : Operand → Value) : Prop where
 ev : ∀ x v, evO s.env x = some v → ρ x = v
 sat : ∀ d V, (d, V) ∈ s.sats → d ∈ o.looksAt ops → V (ρ (.tmp d)) w'

def PhOk (S : Nat → Prop) (w0 : World) (ops : Array Oper) (s : Know) (o : Oper) (w' : World) (ρ : Operand → Value) : Prop :=
 match s.ph with
 | none => Ext w0 w'
 | some (d, U) => ExtB S w0 w' ∧ ∃ x, U x w' ∧ ∀ t, d = some t → t ∈ o.looksAt ops → ρ (.tmp t) = x

def OpOk (P : Program) (n : Nat) (S : Nat → Prop) (w0 : World) (ops : Array Oper) (s : Know) (o : Oper) : Ent → Prop
 | .val v => dstOk n o.dst = true ∧ isSel o.op = false ∧ ((wantE ops.toList s.env o = some false ∧ v = undef) ∨
   (wantE ops.toList s.env o = some true ∧ isDefer o.op = false ∧
    ∀ w' ρ, ExtB S w0 w' → Goes ops s o w' ρ → ExecE P (execOp ρ o) w' (fun u w'' => u = v ∧ Ext w' w'') fun _ _ => False))
 | .sat V => dstOk n o.dst = true ∧ isSel o.op = false ∧ wantE ops.toList s.env o = some true ∧ isDefer o.op = false ∧
   (∀ v w' w'', ExtB S w0 w' → ExtB S w' w'' → V v w' → V v w'') ∧
   ∀ w' ρ, ExtB S w0 w' → Goes ops s o w' ρ → ExecE P (execOp ρ o) w' (fun u w'' => Ext w' w'' ∧ V u w'') fun _ _ => False
 | .wri V => dstOk n o.dst = true ∧ isSel o.op = false ∧ wantE ops.toList s.env o = some true ∧ isDefer o.op = false ∧
   (∀ v w' w'', ExtB S w0 w' → Ext w' w'' → V v w' → V v w'') ∧
   ∀ w' ρ, PhOk S w0 ops s o w' ρ → Goes ops s o w' ρ → (s.ph = none → ∀ d V, (d, V) ∈ s.pres → d ∈ o.looksAt ops → V (ρ (.tmp d)) w') → ExecE P (execOp ρ o) w' (fun u w'' => ExtB S w' w'' ∧ V u w'') fun _ _ => False
 | .pre V => dstOk n o.dst = true ∧ isSel o.op = false ∧ wantE ops.toList s.env o = some true ∧ isDefer o.op = false ∧
   (∀ v w' w'', ExtB S w0 w' → Ext w' w'' → V v w' → V v w'') ∧
   ∀ w' ρ, ExtB S w0 w' → Goes ops s o w' ρ → ExecE P (execOp ρ o) w' (fun u w'' => Ext w' w'' ∧ V u w'') fun _ _ => False

inductive Ord (ops : List Oper) : Nat → Nat → Prop where
 | edge {j : Nat} {o : Oper} {e : Edge} (ho : ops[j]? = some o) (he : e ∈ o.after) (hb : Region.binds .any e = true) : Ord ops e.on j
 | step {i j : Nat} {o : Oper} {e : Edge} (ho : ops[j]? = some o) (he : e ∈ o.after) (hb : Region.binds .any e = true) (h : Ord ops i e.on) : Ord ops i j

def maskOf (ms : List Nat) (o : Oper) : Nat :=
 o.after.toList.foldl (fun acc e => bif Region.binds .any e then acc ||| (2 ^ e.on ||| ms.getD e.on 0) else acc) 0

theorem maskOf_ord {ops : List Oper} {ms : List Nat} {j : Nat} {o : Oper} (ho : ops[j]? = some o) (hm : ∀ k i, (ms.getD k 0).testBit i = true → Ord ops i k) {i : Nat}
  (h : (maskOf ms o).testBit i = true) : Ord ops i j := by
 have key : ∀ (l : List Edge) (acc : Nat), (∀ e ∈ l, e ∈ o.after) → (∀ i, acc.testBit i = true → Ord ops i j) →
   ∀ i, (l.foldl (fun acc e => bif Region.binds .any e then acc ||| (2 ^ e.on ||| ms.getD e.on 0) else acc) acc).testBit i = true → Ord ops i j := by
  intro l
  induction l with
  | nil => intro acc _ ha i h; exact ha i h
  | cons e r ih =>
   intro acc hl ha i h
   refine ih _ (fun e he => hl e (List.mem_cons_of_mem _ he)) ?_ i h
   intro i hi
   simp only at hi
   cases hb : Region.binds .any e with
   | false => rw [hb] at hi; exact ha i hi
   | true =>
    rw [hb, cond_true, Nat.testBit_or, Nat.testBit_or, Bool.or_eq_true, Bool.or_eq_true] at hi
    rcases hi with hi | hi | hi
    ·exact ha i hi
    ·rw [Nat.testBit_two_pow, decide_eq_true_eq] at hi
     subst hi
     exact .edge ho (hl e List.mem_cons_self) hb
    ·exact .step ho (hl e List.mem_cons_self) hb (hm _ _ hi)
 exact key o.after.toList 0 (fun e he => by simpa using he) (fun i h => by simp at h) i h

def pairOk (ops : List Oper) (mu : List Bool) (i j : Nat) (o : Oper) : Bool :=
 match ops[i]? with
 | some x => x.apart ops.toArray o && !((mu.getD i false) && (mu.getD j false))
 | none => false
def dstNe (ops : List Oper) (i : Nat) (o : Oper) : Bool :=
 match ops[i]?, o.dst with
 | some ⟨some a, _, _, _, _, _⟩, some b => !(Nat.beq a b)
 | _, _ => true

def okAt (ops : List Oper) (mu : List Bool) (ms : List Nat) (o : Oper) : Bool :=
 (o.after.toList.all fun e => !(Region.binds .any e) || Nat.blt e.on ms.length) &&
 (List.range ms.length).all fun i => (bif (maskOf ms o).testBit i then true else Nat.blt ms.length mu.length && pairOk ops mu i ms.length o) &&
  (Nat.ble mu.length ms.length || dstNe ops i o)

def chk (ops : List Oper) (mu : List Bool) : List Oper → List Nat → Bool
 | [], _ => true
 | o :: rest, ms => okAt ops mu ms o && chk ops mu rest (ms ++ [maskOf ms o])

structure Okay (ops : List Oper) (mu : List Bool) : Prop where
 back : ∀ (j : Nat) (o : Oper), ops[j]? = some o → ∀ e ∈ o.after, Region.binds .any e = true → e.on < j
 pair : ∀ (i j : Nat) (x o : Oper), i < j → ops[i]? = some x → ops[j]? = some o → Ord ops i j ∨ (j < mu.length ∧ x.apart ops.toArray o = true ∧ ¬ (mu.getD i false = true ∧ mu.getD j false = true))
 dst : ∀ (i j : Nat) (x o : Oper), i < j → j < mu.length → ops[i]? = some x → ops[j]? = some o → ∀ d, x.dst = some d → o.dst ≠ some d

theorem chk_okay {ops : List Oper} {mu : List Bool} (h : chk ops mu ops [] = true) : Okay ops mu := by
 have key : ∀ (rest : List Oper) (ms : List Nat), ops.drop ms.length = rest → (∀ k i, (ms.getD k 0).testBit i = true → Ord ops i k) → chk ops mu rest ms = true →
   ∀ (j : Nat) (o : Oper), ms.length ≤ j → ops[j]? = some o → ∃ ms', ms'.length = j ∧ (∀ k i, (ms'.getD k 0).testBit i = true → Ord ops i k) ∧ okAt ops mu ms' o = true := by
  intro rest
  induction rest with
  | nil =>
   intro ms hd hm hc j o hj ho
   have := List.drop_eq_nil_iff.1 hd
   rw [List.getElem?_eq_none (by omega)] at ho; simp at ho
  | cons a rest ih =>
   intro ms hd hm hc j o hj ho
   obtain ⟨h1, h2⟩ := drop_cons hd
   simp only [chk, Bool.and_eq_true] at hc
   rcases Nat.lt_or_ge ms.length j with hlt | hge
   ·refine ih (ms ++ [maskOf ms a]) (by simpa using h2) ?_ hc.2 j o (by simp; omega) ho
    intro k i hki
    rcases Nat.lt_trichotomy k ms.length with hk | hk | hk
    ·refine hm k i ?_
     rw [List.getD_eq_getElem?_getD, List.getElem?_append_left hk, ← List.getD_eq_getElem?_getD] at hki
     exact hki
    ·subst hk
     rw [List.getD_eq_getElem?_getD, List.getElem?_append_right (Nat.le_refl _)] at hki
     simp only [Nat.sub_self, List.getElem?_cons_zero, Option.getD_some] at hki
     exact maskOf_ord h1 hm hki
    ·rw [List.getD_eq_getElem?_getD, List.getElem?_eq_none (by simp; omega)] at hki
     simp at hki
   ·have hj' : j = ms.length := by omega
    subst hj'
    rw [h1] at ho
    injection ho with ho; subst ho
    exact ⟨ms, rfl, hm, hc.1⟩
 have all : ∀ (j : Nat) (o : Oper), ops[j]? = some o → ∃ ms', ms'.length = j ∧ (∀ k i, (ms'.getD k 0).testBit i = true → Ord ops i k) ∧ okAt ops mu ms' o = true :=
  fun j o ho => key ops [] rfl (fun k i h => by simp at h) h j o (by simp) ho
 refine ⟨?_, ?_, ?_⟩
 ·intro j o ho e he hb
  obtain ⟨ms, hl, -, hk⟩ := all j o ho
  simp only [okAt, Bool.and_eq_true, List.all_eq_true] at hk
  have := hk.1 e (by simpa using he)
  rw [hb] at this
  simp only [Bool.not_true, Bool.false_or] at this
  rw [Nat.blt_eq] at this
  omega
 ·intro i j x o hij hx ho
  obtain ⟨ms, hl, hm, hk⟩ := all j o ho
  simp only [okAt, Bool.and_eq_true, List.all_eq_true] at hk
  have := (hk.2 i (by simp; omega)).1
  cases hb : (maskOf ms o).testBit i with
  | true => exact .inl (maskOf_ord ho hm hb)
  | false =>
   rw [hb] at this
   simp only [cond_false, Bool.and_eq_true, pairOk, hx, hl] at this
   refine .inr ⟨by have := this.1; rwa [Nat.blt_eq] at this, this.2.1, ?_⟩
   rintro ⟨h1, h2⟩
   rw [h1, h2] at this
   simp at this
 ·intro i j x o hij hjm hx ho d hxd hod
  obtain ⟨ms, hl, hm, hk⟩ := all j o ho
  simp only [okAt, Bool.and_eq_true, List.all_eq_true] at hk
  have := (hk.2 i (by simp; omega)).2
  have hn : Nat.ble mu.length ms.length = false := by
   cases hq : Nat.ble mu.length ms.length
   ·rfl
   ·have := Nat.le_of_ble_eq_true hq; omega
  rw [hn, Bool.false_or] at this
  obtain ⟨xd, xo, xt, xp, xa, xg⟩ := x
  simp only at hxd
  subst hxd
  simp [dstNe, hx, hod] at this

def stN (l : List Oper) (es : List Ent) (s0 : Know) : Nat → Know
 | 0 => s0
 | i + 1 => match l[i]?, es[i]? with
  | some o, some e => (stN l es s0 i).add o.dst e
  | _, _ => stN l es s0 i

def AsyF (P : Program) (n : Nat) (S : Nat → Prop) (w0 : World) (ops : Array Oper) (T : Know → List Oper → Prop) : List Ent → List Oper → Know → Prop
 | [], rest, s => T s rest
 | e :: es, o :: rest, s => OpOk P n S w0 ops s o e ∧ AsyF P n S w0 ops T es rest (s.add o.dst e)
 | _ :: _, [], _ => False

theorem asyF_all {P : Program} {n : Nat} {S : Nat → Prop} {w0 : World} {ops : Array Oper} {T : Know → List Oper → Prop} {l : List Oper} {es : List Ent} {s0 : Know}
  (h : AsyF P n S w0 ops T es l s0) : es.length ≤ l.length ∧ (∀ (i : Nat) o e, l[i]? = some o → es[i]? = some e → OpOk P n S w0 ops (stN l es s0 i) o e) ∧ T (stN l es s0 es.length) (l.drop es.length) := by
 have key : ∀ k, k ≤ es.length → AsyF P n S w0 ops T (es.drop k) (l.drop k) (stN l es s0 k) ∧ k ≤ l.length := by
  intro k
  induction k with
  | zero => intro _; exact ⟨h, Nat.zero_le _⟩
  | succ k ih =>
   intro hk
   obtain ⟨ih, hkl⟩ := ih (by omega)
   have he : es[k]? = some es[k] := List.getElem?_eq_getElem (by omega)
   rw [List.drop_eq_getElem_cons (by omega : k < es.length)] at ih
   rcases Nat.lt_or_ge k l.length with hl | hl
   ·rw [List.drop_eq_getElem_cons hl] at ih
    refine ⟨?_, hl⟩
    have := ih.2
    simp only [stN, List.getElem?_eq_getElem hl, he]
    exact this
   ·rw [List.drop_eq_nil_iff.2 hl] at ih
    exact ih.elim
 refine ⟨(key _ (Nat.le_refl _)).2, ?_, ?_⟩
 ·intro i o e ho he
  have hi : i < es.length := by
   rcases Nat.lt_or_ge i es.length with h | h
   ·exact h
   ·rw [List.getElem?_eq_none h] at he; simp at he
  have hl : i < l.length := by
   rcases Nat.lt_or_ge i l.length with h | h
   ·exact h
   ·rw [List.getElem?_eq_none h] at ho; simp at ho
  have := (key i (by omega)).1
  rw [List.drop_eq_getElem_cons hi, List.drop_eq_getElem_cons hl] at this
  rw [List.getElem?_eq_getElem hi] at he
  rw [List.getElem?_eq_getElem hl] at ho
  injection he with he; injection ho with ho
  subst he; subst ho
  exact this.1
 ·have := (key es.length (Nat.le_refl _)).1
  rw [List.drop_length] at this
  exact this

section
variable {l : List Oper} {es : List Ent} {env : Env} {mu : List Bool}

def know0 (env : Env) : Know := ⟨env, [], none, [], []⟩

theorem stN_env (hd : ∀ (i j : Nat) x o, i < j → j < es.length → l[i]? = some x → l[j]? = some o → ∀ d, x.dst = some d → o.dst ≠ some d) :
  ∀ i, i ≤ es.length → ∀ t v, (stN l es (know0 env) i).env.get t = some v →
   (∃ (j : Nat) (o : Oper), j < i ∧ l[j]? = some o ∧ o.dst = some t ∧ es[j]? = some (.val v)) ∨ ((∀ (j : Nat) o, j < i → l[j]? = some o → o.dst ≠ some t) ∧ env.get t = some v) := by
 intro i
 induction i with
 | zero => intro _ t v h; exact .inr ⟨fun j o hj => by omega, h⟩
 | succ i ih =>
  intro hi t v h
  simp only [stN] at h
  have he : es[i]? = some es[i] := List.getElem?_eq_getElem (by omega)
  rw [he] at h
  cases ho : l[i]? with
  | none =>
   rw [ho] at h
   simp only at h
   rcases ih (by omega) t v h with ⟨j, o, hj, h1, h2, h3⟩ | ⟨h1, h2⟩
   ·exact .inl ⟨j, o, by omega, h1, h2, h3⟩
   ·refine .inr ⟨fun j o hj hjo => ?_, h2⟩
    rcases Nat.lt_or_ge j i with hlt | hge
    ·exact h1 j o hlt hjo
    ·have : j = i := by omega
     subst this; rw [ho] at hjo; simp at hjo
  | some o =>
   rw [ho] at h
   simp only at h
   have carry : o.dst ≠ some t → (stN l es (know0 env) i).env.get t = some v →
     (∃ (j : Nat) (o : Oper), j < i + 1 ∧ l[j]? = some o ∧ o.dst = some t ∧ es[j]? = some (.val v)) ∨ ((∀ (j : Nat) o, j < i + 1 → l[j]? = some o → o.dst ≠ some t) ∧ env.get t = some v) := by
    intro hne h
    rcases ih (by omega) t v h with ⟨j, o, hj, h1, h2, h3⟩ | ⟨h1, h2⟩
    ·exact .inl ⟨j, o, by omega, h1, h2, h3⟩
    ·refine .inr ⟨fun j o' hj hjo => ?_, h2⟩
     rcases Nat.lt_or_ge j i with hlt | hge
     ·exact h1 j o' hlt hjo
     ·have : j = i := by omega
      subst this; rw [ho] at hjo; injection hjo with hjo; subst hjo; exact hne
   cases hE : es[i] with
   | val u =>
    rw [hE] at h
    simp only [Know.add] at h
    rcases Env.put_get h with ⟨h1, h2⟩ | ⟨h1, h2⟩
    ·subst h2; exact .inl ⟨i, o, by omega, ho, h1, by rw [he, hE]⟩
    ·exact carry h1 h2
   | sat V =>
    rw [hE] at h
    simp only [Know.add] at h
    obtain ⟨h1, h2⟩ := Env.del_get h
    exact carry h2 h1
   | wri V =>
    rw [hE] at h
    simp only [Know.add] at h
    obtain ⟨h1, h2⟩ := Env.del_get h
    exact carry h2 h1
   | pre V =>
    rw [hE] at h
    simp only [Know.add] at h
    obtain ⟨h1, h2⟩ := Env.del_get h
    exact carry h2 h1

theorem stN_sats : ∀ i, i ≤ es.length → ∀ d V, (d, V) ∈ (stN l es (know0 env) i).sats → ∃ (j : Nat) (o : Oper), j < i ∧ l[j]? = some o ∧ o.dst = some d ∧ es[j]? = some (.sat V) := by
 intro i
 induction i with
 | zero => intro _ d V h; simp [stN, know0] at h
 | succ i ih =>
  intro hi d V h
  simp only [stN] at h
  have he : es[i]? = some es[i] := List.getElem?_eq_getElem (by omega)
  rw [he] at h
  have up : (d, V) ∈ (stN l es (know0 env) i).sats → ∃ (j : Nat) (o : Oper), j < i + 1 ∧ l[j]? = some o ∧ o.dst = some d ∧ es[j]? = some (.sat V) := fun h =>
   let ⟨j, o, hj, r⟩ := ih (by omega) d V h; ⟨j, o, by omega, r⟩
  cases ho : l[i]? with
  | none => rw [ho] at h; exact up h
  | some o =>
   rw [ho] at h
   simp only at h
   cases hE : es[i] with
   | val u => rw [hE] at h; exact up h
   | sat W =>
    rw [hE] at h
    simp only [Know.add] at h
    cases hdst : o.dst with
    | none => rw [hdst] at h; exact up h
    | some d' =>
     rw [hdst] at h
     rcases List.mem_cons.1 h with h | h
     ·injection h with h1 h2; subst h1; subst h2
      exact ⟨i, o, by omega, ho, hdst, by rw [he, hE]⟩
     ·exact up h
   | wri W => rw [hE] at h; exact up h
   | pre W => rw [hE] at h; exact up h

theorem stN_pres : ∀ i, i ≤ es.length → ∀ d V, (d, V) ∈ (stN l es (know0 env) i).pres → ∃ (j : Nat) (o : Oper), j < i ∧ l[j]? = some o ∧ o.dst = some d ∧ es[j]? = some (.pre V) := by
 intro i
 induction i with
 | zero => intro _ d V h; simp [stN, know0] at h
 | succ i ih =>
  intro hi d V h
  simp only [stN] at h
  have he : es[i]? = some es[i] := List.getElem?_eq_getElem (by omega)
  rw [he] at h
  have up : (d, V) ∈ (stN l es (know0 env) i).pres → ∃ (j : Nat) (o : Oper), j < i + 1 ∧ l[j]? = some o ∧ o.dst = some d ∧ es[j]? = some (.pre V) := fun h =>
   let ⟨j, o, hj, r⟩ := ih (by omega) d V h; ⟨j, o, by omega, r⟩
  cases ho : l[i]? with
  | none => rw [ho] at h; exact up h
  | some o =>
   rw [ho] at h
   simp only at h
   cases hE : es[i] with
   | val u => rw [hE] at h; exact up h
   | pre W =>
    rw [hE] at h
    simp only [Know.add] at h
    cases hdst : o.dst with
    | none => rw [hdst] at h; exact up h
    | some d' =>
     rw [hdst] at h
     rcases List.mem_cons.1 h with h | h
     ·injection h with h1 h2; subst h1; subst h2
      exact ⟨i, o, by omega, ho, hdst, by rw [he, hE]⟩
     ·exact up h
   | wri W => rw [hE] at h; exact up h
   | sat W => rw [hE] at h; exact up h

theorem stN_ph : ∀ i, i ≤ es.length → i ≤ l.length → match (stN l es (know0 env) i).ph with
  | none => ∀ j e, j < i → es[j]? = some e → e.isMut = false
  | some (d, U) => ∃ (j : Nat) (o : Oper), j < i ∧ l[j]? = some o ∧ o.dst = d ∧ es[j]? = some (.wri U) ∧ ∀ k e, j < k → k < i → es[k]? = some e → e.isMut = false := by
 intro i
 induction i with
 | zero => intro _ _; simp only [stN, know0]; intro j e hj; omega
 | succ i ih =>
  intro hi hl
  have ih := ih (by omega) (by omega)
  have he : es[i]? = some es[i] := List.getElem?_eq_getElem (by omega)
  have ho : l[i]? = some l[i] := List.getElem?_eq_getElem (by omega)
  simp only [stN, he, ho]
  have keep : es[i].isMut = false → match (stN l es (know0 env) i).ph with
    | none => ∀ j e, j < i + 1 → es[j]? = some e → e.isMut = false
    | some (d, U) => ∃ (j : Nat) (o : Oper), j < i + 1 ∧ l[j]? = some o ∧ o.dst = d ∧ es[j]? = some (.wri U) ∧ ∀ k e, j < k → k < i + 1 → es[k]? = some e → e.isMut = false := by
   intro hm
   cases hp : (stN l es (know0 env) i).ph with
   | none =>
    rw [hp] at ih
    simp only at ih ⊢
    intro j e hj hje
    rcases Nat.lt_or_ge j i with hlt | hge
    ·exact ih j e hlt hje
    ·have : j = i := by omega
     subst this; rw [he] at hje; injection hje with hje; rw [← hje]; exact hm
   | some x =>
    obtain ⟨d, U⟩ := x
    rw [hp] at ih
    simp only at ih ⊢
    obtain ⟨j, o, hj, h1, h2, h3, h4⟩ := ih
    refine ⟨j, o, by omega, h1, h2, h3, fun k e hjk hk hke => ?_⟩
    rcases Nat.lt_or_ge k i with hlt | hge
    ·exact h4 k e hjk hlt hke
    ·have : k = i := by omega
     subst this; rw [he] at hke; injection hke with hke; rw [← hke]; exact hm
  cases hE : es[i] with
  | val u => rw [hE] at keep; simp only [Know.add]; exact keep rfl
  | sat W => rw [hE] at keep; simp only [Know.add]; exact keep rfl
  | pre W => rw [hE] at keep; simp only [Know.add]; exact keep rfl
  | wri W =>
   simp only [Know.add]
   exact ⟨i, l[i], by omega, ho, rfl, by rw [he, hE], fun k e h1 h2 => by omega⟩

theorem stN_mu : ∀ i, i ≤ es.length → i ≤ l.length → (stN l es (know0 env) i).mu = ((es.take i).map Ent.isMut).reverse := by
 intro i
 induction i with
 | zero => intro _ _; rfl
 | succ i ih =>
  intro hi hl
  have he : es[i]? = some es[i] := List.getElem?_eq_getElem (by omega)
  have ho : l[i]? = some l[i] := List.getElem?_eq_getElem (by omega)
  have ht : es.take (i + 1) = es.take i ++ [es[i]] := by rw [List.take_add_one, he]; rfl
  simp only [stN, he, ho, ht, List.map_append, List.reverse_append]
  rw [← ih (by omega) (by omega)]
  cases es[i] <;> rfl
end

section
variable {P : Program} {c : Ctx} {n : Nat} {ds : List Deferred} {l : List Oper} {es : List Ent} {env : Env} {S : Nat → Prop} {w0 : World} {k : List Item} {Q : Out → Act → World → Prop}

abbrev Lst (listed : Array Bool) (j : Nat) : Prop := listed.getD j false = true

structure Inv (n : Nat) (ds : List Deferred) (l : List Oper) (es : List Ent) (env : Env) (S : Nat → Prop) (w0 : World) (listed : Array Bool) (a : Act) (w : World) : Prop where
 lsz : listed.size = l.length
 sz : a.tmps.size = n
 df : a.defers = ds
 ext : ExtB S w0 w
 lt : ∀ j, Lst listed j → j < es.length
 down : ∀ (j : Nat) (o : Oper) e, Lst listed j → l[j]? = some o → e ∈ o.after → Region.binds .any e = true → Lst listed e.on
 val : ∀ (j : Nat) (o : Oper) v t, Lst listed j → l[j]? = some o → es[j]? = some (.val v) → o.dst = some t → a.tmps[t]? = some v
 sat : ∀ (j : Nat) (o : Oper) V t, Lst listed j → l[j]? = some o → es[j]? = some (.sat V) → o.dst = some t → V (a.eval (.tmp t)) w
 wri : (Ext w0 w ∧ ∀ (j : Nat) e, Lst listed j → es[j]? = some e → e.isMut = false) ∨
  (∃ (j : Nat) (o : Oper) (U : Pred), Lst listed j ∧ l[j]? = some o ∧ es[j]? = some (.wri U) ∧ (∀ (i : Nat) e, Lst listed i → es[i]? = some e → e.isMut = true → i ≤ j) ∧
   ∃ x, U x w ∧ ∀ t, o.dst = some t → a.eval (.tmp t) = x)
 base : ∀ t v, env.get t = some v → (∀ (j : Nat) (o : Oper), Lst listed j → l[j]? = some o → o.dst ≠ some t) → a.tmps[t]? = some v
 pre : (∀ (j : Nat) e, Lst listed j → es[j]? = some e → e.isMut = false) → ∀ (j : Nat) (o : Oper) V t, Lst listed j → l[j]? = some o → es[j]? = some (.pre V) → o.dst = some t → V (a.eval (.tmp t)) w

theorem ord_listed {listed : Array Bool} (hdn : ∀ (j : Nat) (o : Oper) e, Lst listed j → l[j]? = some o → e ∈ o.after → Region.binds .any e = true → Lst listed e.on)
  {i j : Nat} (h : Ord l i j) : (∀ (o : Oper) e, l[j]? = some o → e ∈ o.after → Region.binds .any e = true → Lst listed e.on) → Lst listed i := by
 induction h with
 | edge ho he hb => intro hr; exact hr _ _ ho he hb
 | step ho he hb _ ih => intro hr; exact ih fun o e h1 h2 h3 => hdn _ _ _ (hr _ _ ho he hb) h1 h2 h3

theorem mu_getD {i : Nat} : ((es.map Ent.isMut).getD i false = true) ↔ ∃ e, es[i]? = some e ∧ e.isMut = true := by
 rw [List.getD_eq_getElem?_getD, List.getElem?_map]
 cases es[i]? <;> simp

theorem lst_set {listed : Array Bool} {i j : Nat} (hsz : i < listed.size) : Lst (listed.setIfInBounds i true) j ↔ (j = i ∨ Lst listed j) := by
 unfold Lst
 by_cases h : i = j
 ·subst h; simp [hsz]
 ·rw [getD_set_ne false h]
  exact ⟨.inr, fun hh => hh.resolve_left fun e => h e.symm⟩

theorem eval_put_ne (a : Act) {d : Option Nat} {t : Nat} (v : Value) (h : d ≠ some t) : (a.put d v).eval (.tmp t) = a.eval (.tmp t) :=
 Act.eval_put fun d' hd e => h (by rw [hd]; injection e with e; rw [e])
theorem tmps_put_ne (a : Act) {d : Option Nat} {t : Nat} (v : Value) (h : d ≠ some t) : (a.put d v).tmps[t]? = a.tmps[t]? := by
 cases d with
 | none => rfl
 | some d => simp [Act.put, Array.getElem?_setIfInBounds_ne (fun e => h (by rw [e]) : d ≠ t)]

variable (hok : Okay l (es.map Ent.isMut)) (hop : ∀ (i : Nat) o e, l[i]? = some o → es[i]? = some e → OpOk P n S w0 l.toArray (stN l es (know0 env) i) o e) (hm : es.length ≤ l.length)
include hok hm

theorem wri_lt {listed : Array Bool} {a : Act} {w : World} (h : Inv n ds l es env S w0 listed a w) {i j : Nat} {e e' : Ent} (hi : es[i]? = some e) (hmi : e.isMut = true)
  (hun : ¬ Lst listed i) (hj : Lst listed j) (hej : es[j]? = some e') (hmj : e'.isMut = true) : j < i := by
 rcases Nat.lt_trichotomy j i with hlt | heq | hgt
 ·exact hlt
 ·subst heq; exact absurd hj hun
 ·exfalso
  have hi' : i < l.length := by
   have : i < es.length := by
    rcases Nat.lt_or_ge i es.length with h | h
    ·exact h
    ·rw [List.getElem?_eq_none h] at hi; simp at hi
   omega
  have hj' : j < l.length := by have := h.lt j hj; omega
  rcases hok.pair i j l[i] l[j] hgt (List.getElem?_eq_getElem hi') (List.getElem?_eq_getElem hj') with ho | ⟨-, -, hn⟩
  ·exact hun (ord_listed h.down ho fun o e h1 h2 h3 => h.down j o e hj h1 h2 h3)
  ·exact hn ⟨mu_getD.2 ⟨_, hi, hmi⟩, mu_getD.2 ⟨_, hej, hmj⟩⟩

include hop

theorem Inv.next {listed : Array Bool} {a : Act} {w : World} (h : Inv n ds l es env S w0 listed a w) {i : Nat} {o : Oper} {e : Ent} (hi : l[i]? = some o) (he : es[i]? = some e)
  (hun : ¬ Lst listed i) (hr : ∀ e ∈ o.after, Region.binds .any e = true → Lst listed e.on) {v : Value} {w' : World} (hx : ExtB S w w') (hx' : e.isMut = false → Ext w w')
  (hv : e.Holds v w') : Inv n ds l es env S w0 (listed.setIfInBounds i true) (a.put o.dst v) w' := by
 have hie : i < es.length := by
  rcases Nat.lt_or_ge i es.length with h | h
  ·exact h
  ·rw [List.getElem?_eq_none h] at he; simp at he
 have hil : i < listed.size := by rw [h.lsz]; omega
 have hdst : ∀ (j : Nat) (x : Oper), j ≠ i → j < es.length → l[j]? = some x → ∀ d, x.dst = some d → o.dst ≠ some d := by
  intro j x hne hj hx d hd
  rcases Nat.lt_or_gt_of_ne hne with hlt | hgt
  ·exact hok.dst j i x o hlt (by simpa using hie) hx hi d hd
  ·intro hod; exact hok.dst i j o x hgt (by simpa using hj) hi hx d hod hd
 have hdk : dstOk n o.dst = true := by
  have := hop i o e hi he
  cases e <;> exact this.1
 have hput : ∀ t, o.dst = some t → (a.put o.dst v).tmps[t]? = some v := by
  intro t ht
  have := dstOk_lt hdk t ht
  rw [ht]
  simp [Act.put, h.sz, this]
 have hputE : ∀ t, o.dst = some t → (a.put o.dst v).eval (.tmp t) = v := by
  intro t ht; simp [Act.eval, hput t ht]
 refine ⟨by simp [h.lsz], ?_, ?_, h.ext.trans hx, ?_, ?_, ?_, ?_, ?_, ?_, ?_⟩
 ·cases o.dst <;> simp [Act.put, h.sz]
 ·cases o.dst <;> exact h.df
 ·intro j hj
  rcases (lst_set hil).1 hj with rfl | hj
  ·exact hie
  ·exact h.lt j hj
 ·intro j x ed hj hx hed hb
  rcases (lst_set hil).1 hj with rfl | hj
  ·rw [hi] at hx; injection hx with hx; subst hx
   exact (lst_set hil).2 (.inr (hr ed hed hb))
  ·exact (lst_set hil).2 (.inr (h.down j x ed hj hx hed hb))
 ·intro j x u t hj hx hu ht
  rcases (lst_set hil).1 hj with rfl | hj
  ·rw [hi] at hx; injection hx with hx; subst hx
   rw [he] at hu; injection hu with hu; subst hu
   have hv : v = u := hv
   subst hv; exact hput t ht
  ·have hne : j ≠ i := fun e => hun (e ▸ hj)
   rw [tmps_put_ne a v (hdst j x hne (h.lt j hj) hx t ht)]
   exact h.val j x u t hj hx hu ht
 ·intro j x V t hj hx' hu ht
  rcases (lst_set hil).1 hj with rfl | hj
  ·rw [hi] at hx'; injection hx' with hx'; subst hx'
   rw [he] at hu; injection hu with hu; subst hu
   rw [hputE t ht]; exact hv
  ·have hne : j ≠ i := fun e => hun (e ▸ hj)
   rw [eval_put_ne a v (hdst j x hne (h.lt j hj) hx' t ht)]
   exact (hop j x _ hx' hu).2.2.2.2.1 _ _ _ h.ext hx (h.sat j x V t hj hx' hu ht)
 ·cases hmu : e.isMut with
  | true =>
   right
   obtain ⟨V, rfl⟩ : ∃ V, e = .wri V := by cases e <;> simp_all [Ent.isMut]
   refine ⟨i, o, V, (lst_set hil).2 (.inl rfl), hi, he, ?_, v, hv, hputE⟩
   intro j e' hj he' hm'
   rcases (lst_set hil).1 hj with rfl | hj
   ·exact Nat.le_refl _
   ·exact Nat.le_of_lt (wri_lt hok hm h he rfl hun hj he' hm')
  | false =>
   have hE := hx' hmu
   rcases h.wri with ⟨h1, h2⟩ | ⟨j, x, U, hj, h1, h2, h3, y, h4, h5⟩
   ·left
    refine ⟨h1.trans hE, fun j e' hj he' => ?_⟩
    rcases (lst_set hil).1 hj with rfl | hj
    ·rw [he] at he'; injection he' with he'; subst he'; exact hmu
    ·exact h2 j e' hj he'
   ·right
    have hne : j ≠ i := fun e => hun (e ▸ hj)
    refine ⟨j, x, U, (lst_set hil).2 (.inr hj), h1, h2, ?_, y, ?_, ?_⟩
    ·intro i' e' hi' he' hm'
     rcases (lst_set hil).1 hi' with rfl | hi'
     ·rw [he] at he'; injection he' with he'; subst he'; rw [hmu] at hm'; simp at hm'
     ·exact h3 i' e' hi' he' hm'
    ·exact (hop j x _ h1 h2).2.2.2.2.1 _ _ _ h.ext hE h4
    ·intro t ht
     rw [eval_put_ne a v (hdst j x hne (h.lt j hj) h1 t ht)]
     exact h5 t ht
 ·intro t u ht hall
  have hne : o.dst ≠ some t := hall i o ((lst_set hil).2 (.inl rfl)) hi
  rw [tmps_put_ne a v hne]
  exact h.base t u ht fun j x hj hx => hall j x ((lst_set hil).2 (.inr hj)) hx
 ·intro hno j x V t hj hxj hu ht
  have hmu : e.isMut = false := hno i e ((lst_set hil).2 (.inl rfl)) he
  have hE := hx' hmu
  rcases (lst_set hil).1 hj with rfl | hj
  ·rw [hi] at hxj; injection hxj with hxj; subst hxj
   rw [he] at hu; injection hu with hu; subst hu
   rw [hputE t ht]; exact hv
  ·have hne : j ≠ i := fun e => hun (e ▸ hj)
   rw [eval_put_ne a v (hdst j x hne (h.lt j hj) hxj t ht)]
   exact (hop j x _ hxj hu).2.2.2.2.1 _ _ _ h.ext hE (h.pre (fun j' e' hj' he' => hno j' e' ((lst_set hil).2 (.inr hj')) he') j x V t hj hxj hu ht)

omit hop hm in
theorem Inv.read {listed : Array Bool} {a : Act} {w : World} (h : Inv n ds l es env S w0 listed a w) {i : Nat} {o : Oper} (hi : l[i]? = some o) (hie : i < es.length)
  (hun : ¬ Lst listed i) (hr : ∀ e ∈ o.after, Region.binds .any e = true → Lst listed e.on) {t : Nat} (ht : t ∈ o.looksAt l.toArray) {v : Value}
  (hv : (stN l es (know0 env) i).env.get t = some v) : a.tmps[t]? = some v := by
 have rdy : ∀ j, Ord l j i → Lst listed j := fun j hj => ord_listed h.down hj fun o' e h1 h2 h3 => by
  rw [hi] at h1; injection h1 with h1; subst h1; exact hr e h2 h3
 rcases stN_env (fun i j x o hij hj hx ho d => hok.dst i j x o hij (by simpa using hj) hx ho d) i (by omega) t v hv with ⟨j, x, hj, h1, h2, h3⟩ | ⟨h1, h2⟩
 ·rcases hok.pair j i x o hj h1 hi with ho | ⟨-, ha, -⟩
  ·exact h.val j x v t (rdy j ho) h1 h3 h2
  ·exact absurd ht ((Oper.apart_spec ha).1 t h2)
 ·refine h.base t v h2 fun j x hj hx hd => ?_
  rcases Nat.lt_trichotomy j i with hlt | heq | hgt
  ·exact h1 j x hlt hx hd
  ·subst heq; exact hun hj
  ·rcases hok.pair i j o x hgt hi hx with ho | ⟨-, ha, -⟩
   ·exact hun (ord_listed h.down ho fun o e h1 h2 h3 => h.down j o e hj h1 h2 h3)
   ·exact (Oper.apart_spec ha).2.2 t hd ht

omit hop hm in
theorem Inv.readS {listed : Array Bool} {a : Act} {w : World} (h : Inv n ds l es env S w0 listed a w) {i : Nat} {o : Oper} (hi : l[i]? = some o) (hie : i < es.length)
  (hr : ∀ e ∈ o.after, Region.binds .any e = true → Lst listed e.on) {d : Nat} (ht : d ∈ o.looksAt l.toArray) {V : Pred}
  (hv : (d, V) ∈ (stN l es (know0 env) i).sats) : V (a.eval (.tmp d)) w := by
 obtain ⟨j, x, hj, h1, h2, h3⟩ := stN_sats i (by omega) d V hv
 have rdy : ∀ j, Ord l j i → Lst listed j := fun j hj => ord_listed h.down hj fun o' e h1 h2 h3 => by
  rw [hi] at h1; injection h1 with h1; subst h1; exact hr e h2 h3
 rcases hok.pair j i x o hj h1 hi with ho | ⟨-, ha, -⟩
 ·exact h.sat j x V d (rdy j ho) h1 h3 h2
 ·exact absurd ht ((Oper.apart_spec ha).1 d h2)

omit hop hm in
theorem Inv.readP {listed : Array Bool} {a : Act} {w : World} (h : Inv n ds l es env S w0 listed a w) {i : Nat} {o : Oper} (hi : l[i]? = some o) (hie : i < es.length)
  (hr : ∀ e ∈ o.after, Region.binds .any e = true → Lst listed e.on) (hno : ∀ (j : Nat) e, Lst listed j → es[j]? = some e → e.isMut = false) {d : Nat} (ht : d ∈ o.looksAt l.toArray) {V : Pred}
  (hv : (d, V) ∈ (stN l es (know0 env) i).pres) : V (a.eval (.tmp d)) w := by
 obtain ⟨j, x, hj, h1, h2, h3⟩ := stN_pres i (by omega) d V hv
 have rdy : ∀ j, Ord l j i → Lst listed j := fun j hj => ord_listed h.down hj fun o' e h1 h2 h3 => by
  rw [hi] at h1; injection h1 with h1; subst h1; exact hr e h2 h3
 rcases hok.pair j i x o hj h1 hi with ho | ⟨-, ha, -⟩
 ·exact h.pre hno j x V d (rdy j ho) h1 h3 h2
 ·exact absurd ht ((Oper.apart_spec ha).1 d h2)

def tailEnv (s : Know) (xs : Nat → Value) : Env :=
 s.sats.map (fun e => (e.1, xs e.1)) ++ ((match s.ph with | some (some t, _) => [(t, xs t)] | _ => []) ++ s.env)

omit hok hop hm in
theorem order_run (hmr : P.follows .mixedOrders = true) {x : Nat} {a : Act} (h : ∀ t, Run P c (.inRegion l.toArray (Region.linearise.go .any l.toArray l.length t (Array.replicate l.length false) []) :: k) Q a { w0 with drawn := w0.drawn + 1 }) :
  Run P c (.code (.region x l.toArray true) :: k) Q a w0 := by
 refine .regionDraw fun t => ?_
 simp only [Region.schedule, hmr, Bool.true_or, if_true, Region.linearise, List.size_toArray]
 exact h t

omit hop hm in
theorem tail_order {fuel t : Nat} {listed : Array Bool} {j : Nat} (hsz : listed.size = l.length) (hl : ∀ i, Lst listed i ↔ i < j) (hj : es.length ≤ j) (hjl : j ≤ l.length) (hf : l.length ≤ j + fuel) :
  Region.linearise.go .any l.toArray fuel t listed [] = List.range' j (l.length - j) := by
 induction fuel generalizing t listed j with
 | zero => rw [show l.length - j = 0 by omega]; rfl
 | succ fuel ih =>
  simp only [Region.linearise.go]
  change (match (Region.ready .any l.toArray listed)[t % (Region.ready .any l.toArray listed).length]? with
   | some i => Region.linearise.go .any l.toArray fuel (t / (Region.ready .any l.toArray listed).length) (listed.setIfInBounds i true) [i]
   | none => [].reverse) = _
  have only : ∀ i, i ∈ Region.ready .any l.toArray listed → i = j := by
   intro i hi
   obtain ⟨h0, o, ho, hr⟩ := mem_ready.1 hi
   have ho' : l[i]? = some o := by simpa using ho
   have hil : i < l.length := by
    rcases Nat.lt_or_ge i l.length with h | h
    ·exact h
    ·rw [List.getElem?_eq_none h] at ho'; simp at ho'
   have hge : j ≤ i := by
    rcases Nat.lt_or_ge i j with h | h
    ·have h1 := (hl i).2 h
     unfold Lst at h1
     have h2 : i < listed.size := by omega
     simp [h2] at h0 h1
     rw [h0] at h1; simp at h1
    ·exact h
   rcases Nat.lt_or_eq_of_le hge with hlt | heq
   ·exfalso
    rcases hok.pair j i l[j] o hlt (List.getElem?_eq_getElem (by omega)) ho' with h | ⟨h, -⟩
    ·have : Lst listed j := by
      have hback : ∀ a b, Ord l a b → a < b := by
       intro a b hab
       induction hab with
       | edge ho he hb => exact hok.back _ _ ho _ he hb
       | step ho he hb _ ih => exact Nat.lt_trans ih (hok.back _ _ ho _ he hb)
      cases h with
      | edge ho2 he hb =>
       rw [ho'] at ho2; injection ho2 with ho2; subst ho2
       exact hr _ he hb
      | step ho2 he hb h =>
       rw [ho'] at ho2; injection ho2 with ho2; subst ho2
       have h1 := (hl _).1 (hr _ he hb)
       have h2 := hback _ _ h
       omega
     have := (hl j).1 this
     omega
    ·simp at h; omega
   ·exact heq.symm
  rcases Nat.lt_or_ge j l.length with hlt | hge
  ·have hjr : j ∈ Region.ready .any l.toArray listed := by
    refine mem_ready.2 ⟨?_, l[j], by simp [hlt], fun e he hb => (hl _).2 ?_⟩
    ·have h1 : ¬ Lst listed j := fun h => by have := (hl j).1 h; omega
     unfold Lst at h1
     have h2 : j < listed.size := by omega
     simp [h2] at h1 ⊢
     exact h1
    ·exact hok.back j l[j] (List.getElem?_eq_getElem hlt) e he hb
   have hpos : 0 < (Region.ready .any l.toArray listed).length := List.length_pos_of_mem hjr
   have hget : (Region.ready .any l.toArray listed)[t % (Region.ready .any l.toArray listed).length]? = some j := by
    have hlt' := Nat.mod_lt t hpos
    rw [List.getElem?_eq_getElem hlt']
    rw [only _ (List.getElem_mem hlt')]
   rw [hget]
   simp only
   rw [linearise_go_acc, List.reverse_singleton, List.singleton_append, ih (by simp [hsz]) (j := j + 1) ?_ (by omega) (by omega) (by omega)]
   ·rw [show l.length - j = (l.length - (j + 1)) + 1 by omega, List.range'_succ]
   ·intro i
    rw [lst_set (by omega), hl]
    omega
  ·have hnil : Region.ready .any l.toArray listed = [] := by
    cases hr : Region.ready .any l.toArray listed with
    | nil => rfl
    | cons x xs =>
     have hx : x ∈ Region.ready .any l.toArray listed := by rw [hr]; exact List.mem_cons_self
     have := only x hx
     subst this
     obtain ⟨-, o, ho, -⟩ := mem_ready.1 hx
     have ho' : l[x]? = some o := by simpa using ho
     rw [List.getElem?_eq_none hge] at ho'; simp at ho'
   rw [hnil, show l.length - j = 0 by omega]
   rfl

def AsyT (P : Program) (c : Ctx) (n : Nat) (ds : List Deferred) (S : Nat → Prop) (w0 : World) (l : List Oper) (k : List Item) (Q : Out → Act → World → Prop) (s : Know) (rest : List Oper) : Prop :=
 chk l s.mu.reverse l [] = true ∧ ∀ w' (xs : Nat → Value), ExtB S w0 w' → (∀ d V, (d, V) ∈ s.sats → V (xs d) w') →
  (match s.ph with | none => Ext w0 w' | some (d, U) => ∃ x, U x w' ∧ ∀ t, d = some t → xs t = x) → RunL P c n ds l.toArray rest k Q (tailEnv s xs) w'

theorem asy_end (htail : AsyT P c n ds S w0 l k Q (stN l es (know0 env) es.length) (l.drop es.length)) {fuel t : Nat} {listed : Array Bool} {a : Act} {w : World}
  (h : Inv n ds l es env S w0 listed a w) (hc : listed.toList.count false ≤ fuel) (hall : ∀ i, i < es.length → Lst listed i) :
   Run P c (.inRegion l.toArray (Region.linearise.go .any l.toArray fuel t listed []) :: k) Q a w := by
 have hl : ∀ i, Lst listed i ↔ i < es.length := fun i => ⟨h.lt i, hall i⟩
 have hfuel : l.length ≤ es.length + fuel := by
  have h1 : (listed.toList.drop es.length).count false = (listed.toList.drop es.length).length := by
   rw [List.count_eq_length]
   intro b hb
   obtain ⟨i, hi, rfl⟩ := List.getElem_of_mem hb
   have hn : ¬ Lst listed (es.length + i) := fun hh => by have := (hl _).1 hh; omega
   simp only [List.getElem_drop, Array.getElem_toList]
   unfold Lst at hn
   simp only [List.length_drop, Array.length_toList] at hi
   have h2 : es.length + i < listed.size := by omega
   simp only [Array.getD_eq_getD_getElem?, Array.getElem?_eq_getElem h2, Option.getD_some] at hn
   simpa using hn
  have h2 : (listed.toList.drop es.length).count false ≤ listed.toList.count false := (List.drop_sublist _ _).count_le _
  have h3 : (listed.toList.drop es.length).length = l.length - es.length := by simp [h.lsz]
  omega
 rw [tail_order hok (by exact h.lsz) hl (Nat.le_refl _) hm hfuel]
 have hdst : ∀ (i j : Nat) (x o : Oper), i < j → j < es.length → l[i]? = some x → l[j]? = some o → ∀ d, x.dst = some d → o.dst ≠ some d := fun i j x o hij hj hx ho d => hok.dst i j x o hij (by simpa using hj) hx ho d
 have hlt : ∀ (j : Nat) (o : Oper) e, l[j]? = some o → es[j]? = some e → ∀ t, o.dst = some t → t < n := by
  intro j o e ho he
  have := hop j o e ho he
  have hk : dstOk n o.dst = true := by cases e <;> exact this.1
  exact dstOk_lt hk
 have hcell : ∀ t, t < n → a.tmps[t]? = some (a.eval (.tmp t)) := by
  intro t ht
  have : t < a.tmps.size := by rw [h.sz]; exact ht
  simp [Act.eval, Array.getElem?_eq_getElem this]
 have hlen : ∀ {j : Nat} {e : Ent}, es[j]? = some e → j < es.length := by
  intro j e he
  rcases Nat.lt_or_ge j es.length with h | h
  ·exact h
  ·rw [List.getElem?_eq_none h] at he; simp at he
 have hph := stN_ph (l := l) (es := es) (env := env) es.length (Nat.le_refl _) hm
 have := htail.2 w (fun t => a.eval (.tmp t)) h.ext (fun d V hd => by
   obtain ⟨j, o, hj, h1, h2, h3⟩ := stN_sats es.length (Nat.le_refl _) d V hd
   exact h.sat j o V d (hall j hj) h1 h3 h2) (by
   cases hp : (stN l es (know0 env) es.length).ph with
   | none =>
    rw [hp] at hph
    simp only at hph ⊢
    rcases h.wri with ⟨h1, -⟩ | ⟨j, o, U, hj, -, h2, -⟩
    ·exact h1
    ·have := hph j _ (h.lt j hj) h2; simp [Ent.isMut] at this
   | some x =>
    obtain ⟨d, U⟩ := x
    rw [hp] at hph
    simp only at hph ⊢
    obtain ⟨j, o, hj, h1, h2, h3, h4⟩ := hph
    rcases h.wri with ⟨-, h5⟩ | ⟨i, o', U', hi, h5, h6, h7, y, h8, h9⟩
    ·have := h5 j _ (hall j hj) h3; simp [Ent.isMut] at this
    ·have hij : i = j := by
      have h10 := h7 j _ (hall j hj) h3 rfl
      rcases Nat.lt_or_eq_of_le h10 with hlt | heq
      ·have := h4 i _ hlt (h.lt i hi) h6; simp [Ent.isMut] at this
      ·exact heq.symm
     subst hij
     rw [h1] at h5; injection h5 with h5; subst h5
     rw [h3] at h6; injection h6 with h6; injection h6 with h6; subst h6
     exact ⟨y, h8, fun t ht => h9 t (by rw [h2, ht])⟩)
 have hrun := this es.length (by simp) a ⟨h.sz, h.df, ?_⟩
 ·rw [List.length_drop] at hrun; exact hrun
 ·intro t v ht
  unfold tailEnv at ht
  have app : ∀ (A B : Env) (t : Nat) (v : Value), Env.get (A ++ B) t = some v → (t, v) ∈ A ∨ Env.get B t = some v := by
   intro A
   induction A with
   | nil => intro B t v h; exact .inr h
   | cons e r ih =>
    intro B t v h
    obtain ⟨kk, u⟩ := e
    by_cases hk : kk = t
    ·subst hk
     rw [List.cons_append, Env.get_cons_same] at h
     injection h with h; subst h; exact .inl List.mem_cons_self
    ·rw [List.cons_append, Env.get_cons_ne hk] at h
     rcases ih B t v h with h | h
     ·exact .inl (List.mem_cons_of_mem _ h)
     ·exact .inr h
  rcases app _ _ _ _ ht with ht | ht
  ·obtain ⟨⟨d, V⟩, hd, he⟩ := List.mem_map.1 ht
   simp only at he
   injection he with h1 h2; subst h1; subst h2
   obtain ⟨j, o, hj, h1, h2, h3⟩ := stN_sats es.length (Nat.le_refl _) d V hd
   exact hcell d (hlt j o _ h1 h3 d h2)
  ·rcases app _ _ _ _ ht with ht | ht
   ·cases hp : (stN l es (know0 env) es.length).ph with
    | none => rw [hp] at ht; simp at ht
    | some x =>
     obtain ⟨d, U⟩ := x
     rw [hp] at ht hph
     cases d with
     | none => simp at ht
     | some d =>
      simp only [List.mem_singleton] at ht
      injection ht with h1 h2; subst h1; subst h2
      obtain ⟨j, o, hj, h1, h2, h3, -⟩ := hph
      exact hcell _ (hlt j o _ h1 h3 _ h2)
   ·rcases stN_env hdst es.length (Nat.le_refl _) t v ht with ⟨j, o, hj, h1, h2, h3⟩ | ⟨h1, h2⟩
    ·exact h.val j o v t (hall j hj) h1 h3 h2
    ·exact h.base t v h2 fun j o hj hx => h1 j o (h.lt j hj) hx

theorem asy_go (htail : AsyT P c n ds S w0 l k Q (stN l es (know0 env) es.length) (l.drop es.length)) :
  ∀ (fuel t : Nat) (listed : Array Bool) (a : Act) (w : World), Inv n ds l es env S w0 listed a w → listed.toList.count false ≤ fuel →
   Run P c (.inRegion l.toArray (Region.linearise.go .any l.toArray fuel t listed []) :: k) Q a w := by
 intro fuel
 induction fuel with
 | zero =>
  intro t listed a w h hc
  refine asy_end hok hop hm htail h hc fun i hi => ?_
  unfold Lst
  have h2 : i < listed.size := by rw [h.lsz]; omega
  simp only [Array.getD_eq_getD_getElem?, Array.getElem?_eq_getElem h2, Option.getD_some]
  cases hb : listed[i] with
  | true => rfl
  | false =>
   have : false ∈ listed.toList := by rw [← hb]; simp
   have := List.count_pos_iff.2 this
   omega
 | succ fuel ih =>
  intro t listed a w h hc
  by_cases hall : ∀ i, i < es.length → Lst listed i
  ·exact asy_end hok hop hm htail h hc hall
  ·-- the least one that is not listed may come next
   have hex : ∃ i, i < es.length ∧ ¬ Lst listed i := by
    refine Classical.byContradiction fun hn => hall fun i hi => Classical.byContradiction fun hc => hn ⟨i, hi, hc⟩
   have unl : ∀ i, i < es.length → ¬ Lst listed i → listed.getD i true = false := by
    intro i hi hn
    have h2 : i < listed.size := by rw [h.lsz]; omega
    unfold Lst at hn
    simp only [Array.getD_eq_getD_getElem?, Array.getElem?_eq_getElem h2, Option.getD_some] at hn ⊢
    simpa using hn
   obtain ⟨i0, hi0, hmin⟩ : ∃ i, (i < es.length ∧ ¬ Lst listed i) ∧ ∀ j, j < i → Lst listed j := by
    obtain ⟨i, hi, hn⟩ := hex
    induction i using Nat.strongRecOn with
    | ind i ihi =>
     by_cases hq : ∀ j, j < i → Lst listed j
     ·exact ⟨i, ⟨hi, hn⟩, hq⟩
     ·obtain ⟨j, hj, hnj⟩ : ∃ j, j < i ∧ ¬ Lst listed j := Classical.byContradiction fun hn' => hq fun j hj => Classical.byContradiction fun hc => hn' ⟨j, hj, hc⟩
      exact ihi j hj (by omega) hnj
   have hr0 : i0 ∈ Region.ready .any l.toArray listed := by
    have hil : i0 < l.length := by omega
    refine mem_ready.2 ⟨unl i0 hi0.1 hi0.2, l[i0], by simp [hil], fun e he hb => hmin _ ?_⟩
    exact hok.back i0 l[i0] (List.getElem?_eq_getElem hil) e he hb
   simp only [Region.linearise.go]
   change Run P c (.inRegion l.toArray (match (Region.ready .any l.toArray listed)[t % (Region.ready .any l.toArray listed).length]? with
    | some i => Region.linearise.go .any l.toArray fuel (t / (Region.ready .any l.toArray listed).length) (listed.setIfInBounds i true) [i]
    | none => [].reverse) :: k) Q a w
   have hpos : 0 < (Region.ready .any l.toArray listed).length := List.length_pos_of_mem hr0
   have hlt' := Nat.mod_lt t hpos
   rw [List.getElem?_eq_getElem hlt']
   have hi := List.getElem_mem hlt'
   generalize (Region.ready .any l.toArray listed)[t % (Region.ready .any l.toArray listed).length] = i at hi ⊢
   simp only
   rw [linearise_go_acc, List.reverse_singleton, List.singleton_append]
   obtain ⟨h0, o, ho, hr⟩ := mem_ready.1 hi
   have ho' : l[i]? = some o := by simpa using ho
   have hil : i < l.length := by
    rcases Nat.lt_or_ge i l.length with h | h
    ·exact h
    ·rw [List.getElem?_eq_none h] at ho'; simp at ho'
   have hsz : i < listed.size := by rw [h.lsz]; exact hil
   have hun : ¬ Lst listed i := by
    unfold Lst
    simp only [Array.getD_eq_getD_getElem?, Array.getElem?_eq_getElem hsz, Option.getD_some] at h0 ⊢
    rw [h0]; simp
   have hie : i < es.length := by
    rcases Nat.lt_or_ge i es.length with h' | h'
    ·exact h'
    ·exfalso
     have hlt : i0 < i := by omega
     rcases hok.pair i0 i l[i0] o hlt (List.getElem?_eq_getElem (by omega)) ho' with h1 | ⟨h1, -⟩
     ·exact hi0.2 (ord_listed h.down h1 fun o' e h2 h3 h4 => by
       rw [ho'] at h2; injection h2 with h2; subst h2; exact hr e h3 h4)
     ·simp at h1; omega
   have he : es[i]? = some es[i] := List.getElem?_eq_getElem hie
   have hO := hop i o _ ho' he
   have hcount : (listed.setIfInBounds i true).toList.count false ≤ fuel := by
    have h1 : listed[i] = false := by
     simpa only [Array.getD_eq_getD_getElem?, Array.getElem?_eq_getElem hsz, Option.getD_some] using h0
    rw [Array.toList_setIfInBounds, List.count_set (by simpa using hsz)]
    simp only [Array.getElem_toList, h1]
    simp only [beq_self_eq_true, if_true]
    rw [if_neg (by decide)]
    omega
   have step : ∀ {v : Value} {w' : World}, ExtB S w w' → (es[i].isMut = false → Ext w w') → es[i].Holds v w' →
     Run P c (.inRegion l.toArray (Region.linearise.go .any l.toArray fuel (t / (Region.ready .any l.toArray listed).length) (listed.setIfInBounds i true) []) :: k) Q (a.put o.dst v) w' :=
    fun hx hx' hv => ih _ _ _ _ (h.next hok hop hm ho' he hun hr hx hx' hv) hcount
   -- what the operation reads
   let ρ : Operand → Value := fun x => match x with
    | .tmp t => bif (o.looksAt l.toArray).contains t then a.eval (.tmp t) else ((stN l es (know0 env) i).env.get t).getD undef
    | x => a.eval x
   have hρt : ∀ t, t ∈ o.looksAt l.toArray → ρ (.tmp t) = a.eval (.tmp t) := by
    intro t ht
    have : (o.looksAt l.toArray).contains t = true := by simpa using ht
    simp only [ρ, this, cond_true]
   have hgo : Goes l.toArray (stN l es (know0 env) i) o w ρ := by
    refine ⟨?_, ?_⟩
    ·intro x v hx
     cases x with
     | tmp t =>
      by_cases ht : t ∈ o.looksAt l.toArray
      ·rw [hρt t ht]
       have := h.read hok ho' hie hun hr ht hx
       simp [Act.eval, this]
      ·have hb : (o.looksAt l.toArray).contains t = false := by simpa using ht
       simp only [evO] at hx
       simp only [ρ, hb, cond_false, hx, Option.getD_some]
     | const u => simpa [evO, Act.eval, ρ] using hx
     | global g => simpa [evO, Act.eval, ρ] using hx
     | func f => simpa [evO, Act.eval, ρ] using hx
    ·intro d V hd hl
     rw [hρt d hl]
     exact h.readS hok ho' hie hr hl hd
   have hcong : isSel o.op = false → execOp ρ o = execOp a.eval o := by
    intro hs
    refine execOp_congr o (fun cs b e => by rw [e] at hs; simp [isSel] at hs) fun x hx => ?_
    cases x with
    | tmp t =>
     refine hρt t ?_
     exact List.mem_append_left _ (List.mem_filterMap.2 ⟨.tmp t, by simpa using hx, rfl⟩)
    | _ => rfl
   have hwant : ∀ b, wantE l.toArray.toList (stN l es (know0 env) i).env o = some b → Region.wanted o (yielded l.toArray a.tmps) = b := by
    intro b hb
    unfold wantE at hb
    unfold Region.wanted
    split at hb
    ·rename_i hg; simp at hb; subst hb; simp [hg]
    ·rename_i j b0 hg
     rw [hg]
     split at hb
     ·rename_i t' ht'
      have hd : (l.toArray[j]?).bind (·.dst) = some t' := by simpa using ht'
      have hlook : t' ∈ o.looksAt l.toArray := List.mem_append_right _ (by simp only [hg, hd]; simp)
      split at hb
      ·rename_i b' hb'
       have := h.read hok ho' hie hun hr hlook hb'
       simp only [yielded, hd, Option.bind_some, this]
       simp at hb; subst hb
       cases b0 <;> cases b' <;> rfl
      ·rename_i hb'
       have := h.read hok ho' hie hun hr hlook hb'
       simp only [yielded, hd, Option.bind_some, this]
       simp at hb; subst hb
       cases b0 <;> rfl
      ·simp at hb
     ·simp at hb
   cases hE : es[i] with
   | val v =>
    rw [hE] at hO step
    obtain ⟨hdk, hsel, hw | ⟨hw, hdf, hex⟩⟩ := hO
    ·refine Run.opSkip (by rw [ho]; simp [hwant _ hw.1]) ?_
     rw [ho]
     exact step (ExtB.refl S w) (fun _ => ExtB.refl _ w) hw.2.symm
    ·refine Run.op ho (hwant _ hw) hdf ?_
     rw [← hcong hsel]
     exact (hex w ρ h.ext hgo).mono (fun u w' hu => step (.of_ext hu.2) (fun _ => hu.2) hu.1) (fun _ _ hf => hf.elim)
   | sat V =>
    rw [hE] at hO step
    obtain ⟨hdk, hsel, hw, hdf, -, hex⟩ := hO
    refine Run.op ho (hwant _ hw) hdf ?_
    rw [← hcong hsel]
    exact (hex w ρ h.ext hgo).mono (fun u w' hu => step (.of_ext hu.1) (fun _ => hu.1) hu.2) (fun _ _ hf => hf.elim)
   | pre V =>
    rw [hE] at hO step
    obtain ⟨hdk, hsel, hw, hdf, -, hex⟩ := hO
    refine Run.op ho (hwant _ hw) hdf ?_
    rw [← hcong hsel]
    exact (hex w ρ h.ext hgo).mono (fun u w' hu => step (.of_ext hu.1) (fun _ => hu.1) hu.2) (fun _ _ hf => hf.elim)
   | wri V =>
    rw [hE] at hO step
    obtain ⟨hdk, hsel, hw, hdf, -, hex⟩ := hO
    refine Run.op ho (hwant _ hw) hdf ?_
    rw [← hcong hsel]
    have hnone : (stN l es (know0 env) i).ph = none → ∀ (j : Nat) e, Lst listed j → es[j]? = some e → e.isMut = false := by
     intro hp j e' hj he'
     have hph := stN_ph (l := l) (es := es) (env := env) i (by omega) (by omega)
     rw [hp] at hph
     simp only at hph
     rw [hE] at he
     cases hm' : e'.isMut with
     | false => rfl
     | true =>
      have hlt := wri_lt hok hm h he rfl hun hj he' hm'
      have := hph j _ hlt he'; rw [hm'] at this; simp at this
    refine (hex w ρ ?_ hgo (fun hp d V hd hl => by rw [hρt d hl]; exact h.readP hok ho' hie hr (hnone hp) hl hd)).mono (fun u w' hu => step hu.1 (fun hf => by simp [Ent.isMut] at hf) hu.2) (fun _ _ hf => hf.elim)
    have hph := stN_ph (l := l) (es := es) (env := env) i (by omega) (by omega)
    unfold PhOk
    rw [hE] at he
    cases hp : (stN l es (know0 env) i).ph with
    | none =>
     rw [hp] at hph
     simp only at hph ⊢
     rcases h.wri with ⟨h1, -⟩ | ⟨j, x, U, hj, -, h2, -⟩
     ·exact h1
     ·have hlt := wri_lt hok hm h he rfl hun hj h2 rfl
      have := hph j _ hlt h2; simp [Ent.isMut] at this
    | some y =>
     obtain ⟨d, U⟩ := y
     rw [hp] at hph
     simp only at hph ⊢
     obtain ⟨j, x, hj, h1, h2, h3, h4⟩ := hph
     have hlj : Lst listed j := by
      rcases hok.pair j i x o hj h1 ho' with h5 | ⟨-, -, h5⟩
      ·exact ord_listed h.down h5 fun o' e h2 h3 h4 => by
        rw [ho'] at h2; injection h2 with h2; subst h2; exact hr e h3 h4
      ·exact absurd ⟨mu_getD.2 ⟨_, h3, rfl⟩, mu_getD.2 ⟨_, he, rfl⟩⟩ h5
     rcases h.wri with ⟨-, h5⟩ | ⟨i', o', U', hi', h5, h6, h7, y, h8, h9⟩
     ·have := h5 j _ hlj h3; simp [Ent.isMut] at this
     ·have hij : i' = j := by
       have h10 := h7 j _ hlj h3 rfl
       rcases Nat.lt_or_eq_of_le h10 with hlt | heq
       ·have h11 := wri_lt hok hm h he rfl hun hi' h6 rfl
        have := h4 i' _ hlt h11 h6; simp [Ent.isMut] at this
       ·exact heq.symm
      subst hij
      rw [h1] at h5; injection h5 with h5; subst h5
      rw [h3] at h6; injection h6 with h6; injection h6 with h6; subst h6
      exact ⟨h.ext, y, h8, fun t ht hl => by rw [hρt t hl]; exact h9 t (by rw [h2, ht])⟩
end

def Asy (P : Program) (c : Ctx) (n : Nat) (ds : List Deferred) (S : Nat → Prop) (w0 : World) (l : List Oper) (k : List Item) (Q : Out → Act → World → Prop) (rest : List Oper) (s : Know) : Prop :=
 ∃ es, AsyF P n S w0 l.toArray (AsyT P c n ds S w0 l k Q) es rest s

theorem RunE.draw {P : Program} {c : Ctx} {n : Nat} {ds : List Deferred} {k : List Item} {Q : Out → Act → World → Prop} {env : Env} {w : World} {l : List Oper} {id : Nat} (S : Nat → Prop)
  (hmr : P.follows .mixedOrders = true) (h : ∀ w0, Ext w w0 → Asy P c n ds S w0 l k Q l (know0 env)) : RunE P c n ds (.code (.region id l.toArray true) :: k) Q env w := fun a ha => by
 refine order_run hmr fun t => ?_
 obtain ⟨es, hF⟩ := h _ ((ExtB.refl _ w).draw (w.drawn + 1) (Nat.le_succ _))
 obtain ⟨hm, hop, htail⟩ := asyF_all hF
 have hmu : (stN l es (know0 env) es.length).mu.reverse = es.map Ent.isMut := by
  rw [stN_mu es.length (Nat.le_refl _) hm, List.reverse_reverse, List.take_length]
 have hok : Okay l (es.map Ent.isMut) := chk_okay (by rw [← hmu]; exact htail.1)
 refine asy_go hok hop hm htail l.length t _ a _ ?_ ?_
 ·have hn : ∀ j, ¬ Lst (Array.replicate l.length false) j := by
   intro j hj
   unfold Lst at hj
   simp only [Array.getD_eq_getD_getElem?, Array.getElem?_replicate] at hj
   split at hj <;> simp at hj
  refine ⟨by simp, ha.size, ha.defers, ExtB.refl _ _, fun j hj => (hn j hj).elim, fun j _ _ hj => (hn j hj).elim, fun j _ _ _ hj => (hn j hj).elim, fun j _ _ _ hj => (hn j hj).elim,
   .inl ⟨ExtB.refl _ _, fun j _ hj => (hn j hj).elim⟩, fun t v ht _ => ha.get t v ht, fun _ j _ _ _ hj => (hn j hj).elim⟩
 ·refine Nat.le_trans List.count_le_length ?_
  simp
end Go.Rn
end
section
set_option maxRecDepth 4000
namespace Go.Rn
open Go.RowKit

def OpE (P : Program) (env : Env) (w : World) (o : Oper) (R : Value → World → Prop) (X : List PanicEntry → World → Prop) : Prop :=
 ∀ ρ : Operand → Value, (∀ x v, evO env x = some v → ρ x = v) → ExecE P (execOp ρ o) w R X

def OpV (P : Program) (env : Env) (w : World) (o : Oper) (v : Value) : Prop :=
 ∀ ρ : Operand → Value, (∀ x v, evO env x = some v → ρ x = v) → (execOp ρ o).run P w = .ok (.value v) w

theorem OpV.e {P : Program} {env : Env} {w : World} {o : Oper} {v : Value} (h : OpV P env w o v) : OpE P env w o (fun u w' => u = v ∧ w' = w) fun _ _ => False :=
 fun ρ hρ => .of_value (h ρ hρ) ⟨rfl, rfl⟩
theorem OpE.mono {P : Program} {env : Env} {w : World} {o : Oper} {R R' : Value → World → Prop} {X X' : List PanicEntry → World → Prop} (h : OpE P env w o R X) (hR : ∀ v w, R v w → R' v w)
  (hX : ∀ v w, X v w → X' v w) : OpE P env w o R' X' := fun ρ hρ => (h ρ hρ).mono hR hX

section
variable {P : Program} {c : Ctx} {k : List Item} {Q : Out → Act → World → Prop} {w : World} {n : Nat} {ds : List Deferred} {env : Env}
variable {ops : Array Oper} {d : Tmp} {op : Op} {ty : TypeId} {pos : String} {after : Array Edge} {guard : Option (Nat × Bool)} {rest : List Oper}

theorem RunL.ex {R : Value → World → Prop} (hw : wantE ops.toList env ⟨some d, op, ty, pos, after, guard⟩ = some true) (hdst : Nat.blt d n = true) (hd : isDefer op = false)
  (h : OpE P env w ⟨some d, op, ty, pos, after, guard⟩ R fun _ _ => False) (h' : ∀ v w', R v w' → RunL P c n ds ops rest k Q ((d, v) :: env) w') :
  RunL P c n ds ops (⟨some d, op, ty, pos, after, guard⟩ :: rest) k Q env w :=
 .exec hw hd hdst fun ρ hρ => (h ρ hρ).mono h' fun _ _ h => h.elim
theorem RunL.exN {R : Value → World → Prop} (hw : wantE ops.toList env ⟨none, op, ty, pos, after, guard⟩ = some true) (hd : isDefer op = false)
  (h : OpE P env w ⟨none, op, ty, pos, after, guard⟩ R fun _ _ => False) (h' : ∀ v w', R v w' → RunL P c n ds ops rest k Q env w') :
  RunL P c n ds ops (⟨none, op, ty, pos, after, guard⟩ :: rest) k Q env w :=
 .exec hw hd rfl fun ρ hρ => (h ρ hρ).mono h' fun _ _ h => h.elim
theorem RunL.val {v : Value} (hw : wantE ops.toList env ⟨some d, op, ty, pos, after, guard⟩ = some true) (hdst : Nat.blt d n = true) (hd : isDefer op = false)
  (h : OpV P env w ⟨some d, op, ty, pos, after, guard⟩ v) (h' : RunL P c n ds ops rest k Q ((d, v) :: env) w) :
  RunL P c n ds ops (⟨some d, op, ty, pos, after, guard⟩ :: rest) k Q env w :=
 .ex hw hdst hd h.e (by rintro _ _ ⟨rfl, rfl⟩; exact h')
end

section
variable {P : Program} {c : Ctx} {k : List Item} {Q : Out → Act → World → Prop} {w0 : World} {n : Nat} {ds : List Deferred} {env : Env} {S : Nat → Prop} {sats pres : List (Nat × Pred)} {ph : Option (Option Nat × Pred)} {mu : List Bool}
variable {l : List Oper} {d : Tmp} {op : Op} {ty : TypeId} {pos : String} {after : Array Edge} {guard : Option (Nat × Bool)} {rest : List Oper}

theorem Asy.step {o : Oper} {s : Know} {e : Ent} (h : OpOk P n S w0 l.toArray s o e) (h' : Asy P c n ds S w0 l k Q rest (s.add o.dst e)) : Asy P c n ds S w0 l k Q (o :: rest) s :=
 let ⟨es, hs⟩ := h'; ⟨e :: es, h, hs⟩

theorem Asy.val {v : Value} (hw : wantE l env ⟨some d, op, ty, pos, after, guard⟩ = some true) (hdst : Nat.blt d n = true) (hd : isDefer op = false) (hs : isSel op = false)
  (h : ∀ w', ExtB S w0 w' → OpE P env w' ⟨some d, op, ty, pos, after, guard⟩ (fun u w'' => u = v ∧ Ext w' w'') fun _ _ => False)
  (h' : Asy P c n ds S w0 l k Q rest ⟨(d, v) :: env, sats, ph, false :: mu, pres⟩) : Asy P c n ds S w0 l k Q (⟨some d, op, ty, pos, after, guard⟩ :: rest) ⟨env, sats, ph, mu, pres⟩ :=
 .step (e := .val v) ⟨hdst, hs, .inr ⟨hw, hd, fun w' ρ hx hg => h w' hx ρ hg.ev⟩⟩ h'

theorem Asy.v {v : Value} (hw : wantE l env ⟨some d, op, ty, pos, after, guard⟩ = some true) (hdst : Nat.blt d n = true) (hd : isDefer op = false) (hs : isSel op = false)
  (h : ∀ w', ExtB S w0 w' → OpV P env w' ⟨some d, op, ty, pos, after, guard⟩ v)
  (h' : Asy P c n ds S w0 l k Q rest ⟨(d, v) :: env, sats, ph, false :: mu, pres⟩) : Asy P c n ds S w0 l k Q (⟨some d, op, ty, pos, after, guard⟩ :: rest) ⟨env, sats, ph, mu, pres⟩ :=
 .val hw hdst hd hs (fun w' hx => (h w' hx).e.mono (by rintro _ _ ⟨rfl, rfl⟩; exact ⟨rfl, ExtB.refl _ _⟩) fun _ _ h => h) h'

theorem evalOp_v {T : Tab} (hT : T.Ok P) {o : Oper} {v : Value} {w : World} (h : evalOp T env o.op = some v) : OpV P env w o v := fun _ hρ => evalOp_ok hT hρ h
theorem evalOp_notSel {T : Tab} {op : Op} {v : Value} (h : evalOp T env op = some v) : isSel op = false := by
 cases op <;> first | rfl | (simp [evalOp] at h)

theorem Asy.pure {T : Tab} (hT : T.Ok P) {v : Value} (hw : wantE l env ⟨some d, op, ty, pos, after, guard⟩ = some true) (hdst : Nat.blt d n = true) (hv : evalOp T env op = some v)
  (h' : Asy P c n ds S w0 l k Q rest ⟨(d, v) :: env, sats, ph, false :: mu, pres⟩) : Asy P c n ds S w0 l k Q (⟨some d, op, ty, pos, after, guard⟩ :: rest) ⟨env, sats, ph, mu, pres⟩ :=
 .v hw hdst (evalOp_notDefer hv) (evalOp_notSel hv) (fun _ _ => evalOp_v hT hv) h'
theorem Asy.unwantedD (hw : wantE l env ⟨some d, op, ty, pos, after, guard⟩ = some false) (hdst : Nat.blt d n = true) (hs : isSel op = false)
  (h' : Asy P c n ds S w0 l k Q rest ⟨(d, undef) :: env, sats, ph, false :: mu, pres⟩) : Asy P c n ds S w0 l k Q (⟨some d, op, ty, pos, after, guard⟩ :: rest) ⟨env, sats, ph, mu, pres⟩ :=
 .step (e := .val undef) ⟨hdst, hs, .inl ⟨hw, rfl⟩⟩ h'

theorem Asy.sat0 (V : Pred) (hw : wantE l env ⟨some d, op, ty, pos, after, guard⟩ = some true) (hdst : Nat.blt d n = true) (hd : isDefer op = false) (hs : isSel op = false)
  (hV : ∀ v w' w'', ExtB S w0 w' → ExtB S w' w'' → V v w' → V v w'')
  (h : ∀ w', ExtB S w0 w' → OpE P env w' ⟨some d, op, ty, pos, after, guard⟩ (fun u w'' => Ext w' w'' ∧ V u w'') fun _ _ => False)
  (h' : Asy P c n ds S w0 l k Q rest ⟨env.del (some d), (d, V) :: sats, ph, false :: mu, pres⟩) : Asy P c n ds S w0 l k Q (⟨some d, op, ty, pos, after, guard⟩ :: rest) ⟨env, sats, ph, mu, pres⟩ :=
 .step (e := .sat V) ⟨hdst, hs, hw, hd, hV, fun w' ρ hx hg => h w' hx ρ hg.ev⟩ h'

theorem ev_cons {t : Nat} {x : Value} {ρ : Operand → Value} (h : ∀ x v, evO env x = some v → ρ x = v) (hx : ρ (.tmp t) = x) : ∀ y v, evO ((t, x) :: env) y = some v → ρ y = v := by
 intro y v hy
 cases y with
 | tmp s =>
  by_cases e : t = s
  ·subst e
   simp only [evO, Env.get_cons_same] at hy
   injection hy with hy; rw [← hy]; exact hx
  ·simp only [evO, Env.get_cons_ne e] at hy
   exact h _ _ hy
 | const u => exact h _ _ hy
 | global g => exact h _ _ hy
 | func f => exact h _ _ hy

theorem Asy.sat1 (i : Nat) {t : Nat} {U : Pred} (V : Pred) (hi : sats[i]? = some (t, U)) (hl : (Oper.looksAt l.toArray ⟨some d, op, ty, pos, after, guard⟩).contains t = true)
  (hw : wantE l env ⟨some d, op, ty, pos, after, guard⟩ = some true) (hdst : Nat.blt d n = true) (hd : isDefer op = false) (hs : isSel op = false)
  (hV : ∀ v w' w'', ExtB S w0 w' → ExtB S w' w'' → V v w' → V v w'')
  (h : ∀ w' x, ExtB S w0 w' → U x w' → OpE P ((t, x) :: env) w' ⟨some d, op, ty, pos, after, guard⟩ (fun u w'' => Ext w' w'' ∧ V u w'') fun _ _ => False)
  (h' : Asy P c n ds S w0 l k Q rest ⟨env.del (some d), (d, V) :: sats, ph, false :: mu, pres⟩) : Asy P c n ds S w0 l k Q (⟨some d, op, ty, pos, after, guard⟩ :: rest) ⟨env, sats, ph, mu, pres⟩ :=
 .step (e := .sat V) ⟨hdst, hs, hw, hd, hV, fun w' ρ hx hg => h w' _ hx (hg.sat t U (List.mem_of_getElem? hi) (by simpa using hl)) ρ (ev_cons hg.ev rfl)⟩ h'
theorem Asy.val1 (i : Nat) {t : Nat} {U : Pred} {v : Value} (hi : sats[i]? = some (t, U)) (hl : (Oper.looksAt l.toArray ⟨some d, op, ty, pos, after, guard⟩).contains t = true)
  (hw : wantE l env ⟨some d, op, ty, pos, after, guard⟩ = some true) (hdst : Nat.blt d n = true) (hd : isDefer op = false) (hs : isSel op = false)
  (h : ∀ w' x, ExtB S w0 w' → U x w' → OpE P ((t, x) :: env) w' ⟨some d, op, ty, pos, after, guard⟩ (fun u w'' => u = v ∧ Ext w' w'') fun _ _ => False)
  (h' : Asy P c n ds S w0 l k Q rest ⟨(d, v) :: env, sats, ph, false :: mu, pres⟩) : Asy P c n ds S w0 l k Q (⟨some d, op, ty, pos, after, guard⟩ :: rest) ⟨env, sats, ph, mu, pres⟩ :=
 .step (e := .val v) ⟨hdst, hs, .inr ⟨hw, hd, fun w' ρ hx hg => h w' _ hx (hg.sat t U (List.mem_of_getElem? hi) (by simpa using hl)) ρ (ev_cons hg.ev rfl)⟩⟩ h'

theorem Asy.wri1 {t : Nat} {U : Pred} (V : Pred) (hl : (Oper.looksAt l.toArray ⟨some d, op, ty, pos, after, guard⟩).contains t = true)
  (hw : wantE l env ⟨some d, op, ty, pos, after, guard⟩ = some true) (hdst : Nat.blt d n = true) (hd : isDefer op = false) (hs : isSel op = false)
  (hV : ∀ v w' w'', ExtB S w0 w' → Ext w' w'' → V v w' → V v w'')
  (h : ∀ w' x, ExtB S w0 w' → U x w' → OpE P ((t, x) :: env) w' ⟨some d, op, ty, pos, after, guard⟩ (fun u w'' => ExtB S w' w'' ∧ V u w'') fun _ _ => False)
  (h' : Asy P c n ds S w0 l k Q rest ⟨env.del (some d), sats, some (some d, V), true :: mu, pres⟩) : Asy P c n ds S w0 l k Q (⟨some d, op, ty, pos, after, guard⟩ :: rest) ⟨env, sats, some (some t, U), mu, pres⟩ :=
 .step (e := .wri V) ⟨hdst, hs, hw, hd, hV, fun w' ρ ⟨hx, x, hU, hr⟩ hg _ => h w' x hx hU ρ (ev_cons hg.ev (hr t rfl (by simpa using hl)))⟩ h'
theorem Asy.wriP (i : Nat) {t : Nat} {U : Pred} (V : Pred) (hi : pres[i]? = some (t, U)) (hl : (Oper.looksAt l.toArray ⟨some d, op, ty, pos, after, guard⟩).contains t = true)
  (hw : wantE l env ⟨some d, op, ty, pos, after, guard⟩ = some true) (hdst : Nat.blt d n = true) (hd : isDefer op = false) (hs : isSel op = false)
  (hV : ∀ v w' w'', ExtB S w0 w' → Ext w' w'' → V v w' → V v w'')
  (h : ∀ w' x, Ext w0 w' → U x w' → OpE P ((t, x) :: env) w' ⟨some d, op, ty, pos, after, guard⟩ (fun u w'' => ExtB S w' w'' ∧ V u w'') fun _ _ => False)
  (h' : Asy P c n ds S w0 l k Q rest ⟨env.del (some d), sats, some (some d, V), true :: mu, pres⟩) : Asy P c n ds S w0 l k Q (⟨some d, op, ty, pos, after, guard⟩ :: rest) ⟨env, sats, none, mu, pres⟩ :=
 .step (e := .wri V) ⟨hdst, hs, hw, hd, hV, fun w' ρ hx hg hp => h w' _ hx (hp rfl t U (List.mem_of_getElem? hi) (by simpa using hl)) ρ (ev_cons hg.ev rfl)⟩ h'
theorem Asy.pre0 (V : Pred) (hw : wantE l env ⟨some d, op, ty, pos, after, guard⟩ = some true) (hdst : Nat.blt d n = true) (hd : isDefer op = false) (hs : isSel op = false)
  (hV : ∀ v w' w'', ExtB S w0 w' → Ext w' w'' → V v w' → V v w'')
  (h : ∀ w', ExtB S w0 w' → OpE P env w' ⟨some d, op, ty, pos, after, guard⟩ (fun u w'' => Ext w' w'' ∧ V u w'') fun _ _ => False)
  (h' : Asy P c n ds S w0 l k Q rest ⟨env.del (some d), sats, ph, false :: mu, (d, V) :: pres⟩) : Asy P c n ds S w0 l k Q (⟨some d, op, ty, pos, after, guard⟩ :: rest) ⟨env, sats, ph, mu, pres⟩ :=
 .step (e := .pre V) ⟨hdst, hs, hw, hd, hV, fun w' ρ hx hg => h w' hx ρ hg.ev⟩ h'

def satsAll : List (Nat × Pred) → World → Env → (Env → Prop) → Prop
 | [], _, e, K => K e
 | (d, V) :: r, w, e, K => ∀ x, V x w → satsAll r w ((d, x) :: e) K
theorem satsAll_run {xs : Nat → Value} {w' : World} {K : Env → Prop} : ∀ (sats : List (Nat × Pred)) (e : Env), (∀ d V, (d, V) ∈ sats → V (xs d) w') → satsAll sats w' e K →
  K ((sats.map fun s => (s.1, xs s.1)).reverse ++ e)
 | [], e, _, h => h
 | (d, V) :: r, e, hs, h => by
  have := satsAll_run r ((d, xs d) :: e) (fun d' V' hm => hs d' V' (List.mem_cons_of_mem _ hm)) (h _ (hs d V List.mem_cons_self))
  simpa using this

theorem get_swap {A B : Env} {xs : Nat → Value} (hA : ∀ t v, (t, v) ∈ A → v = xs t) (t : Nat) (v : Value) (h : Env.get (A.reverse ++ B) t = some v) : Env.get (A ++ B) t = some v := by
 have app : ∀ (A B : Env) (t : Nat) (v : Value), (∀ t v, (t, v) ∈ A → v = xs t) → (Env.get (A ++ B) t = some v ↔ ((∃ u, (t, u) ∈ A) ∧ v = xs t) ∨ ((∀ u, (t, u) ∉ A) ∧ Env.get B t = some v)) := by
  intro A
  induction A with
  | nil => intro B t v _; simp
  | cons e r ih =>
   intro B t v hA
   obtain ⟨kk, u⟩ := e
   by_cases hk : kk = t
   ·subst hk
    rw [List.cons_append, Env.get_cons_same]
    have hu := hA kk u List.mem_cons_self
    constructor
    ·intro h; injection h with h; subst h; exact .inl ⟨⟨u, List.mem_cons_self⟩, hu⟩
    ·rintro (⟨-, h⟩ | ⟨h, -⟩)
     ·rw [h, hu]
     ·exact absurd List.mem_cons_self (h u)
   ·rw [List.cons_append, Env.get_cons_ne hk, ih B t v fun t v hm => hA t v (List.mem_cons_of_mem _ hm)]
    have hmem : ∀ u', (t, u') ∈ (kk, u) :: r ↔ (t, u') ∈ r := by
     intro u'
     rw [List.mem_cons]
     constructor
     ·rintro (h | h)
      ·injection h with h1 _; exact absurd h1.symm hk
      ·exact h
     ·exact .inr
    simp only [hmem]
 rw [app _ _ _ _ (fun t v hm => hA t v (by simpa using hm))] at h
 rw [app _ _ _ _ hA]
 simpa using h

theorem Asy.tail (hc : chk l mu.reverse l [] = true) (h : ∀ w', Ext w0 w' → satsAll sats w' env fun e => RunL P c n ds l.toArray rest k Q e w') :
  Asy P c n ds (fun _ => False) w0 l k Q rest ⟨env, sats, none, mu, pres⟩ :=
 ⟨[], hc, fun w' xs hx hs _ i hi a ha => satsAll_run (xs := xs) sats env hs (h w' hx) i hi a (ha.sub fun t v ht => get_swap (A := sats.map fun s => (s.1, xs s.1)) (xs := xs) (by
   intro t v hm
   obtain ⟨s, -, he⟩ := List.mem_map.1 hm
   injection he with h1 h2; subst h1; exact h2.symm) t v ht)⟩
theorem Asy.tailW {t : Nat} {U : Pred} (hc : chk l mu.reverse l [] = true) (h : ∀ w' x, ExtB S w0 w' → U x w' → satsAll sats w' ((t, x) :: env) fun e => RunL P c n ds l.toArray rest k Q e w') :
  Asy P c n ds S w0 l k Q rest ⟨env, sats, some (some t, U), mu, pres⟩ :=
 ⟨[], hc, fun w' xs hx hs hp i hi a ha => by
  obtain ⟨x, hU, hr⟩ := hp
  have hx' := hr t rfl
  subst hx'
  exact satsAll_run (xs := xs) sats _ hs (h w' _ hx hU) i hi a (ha.sub fun t' v ht => get_swap (A := sats.map fun s => (s.1, xs s.1)) (xs := xs) (by
   intro t v hm
   obtain ⟨s, -, he⟩ := List.mem_map.1 hm
   injection he with h1 h2; subst h1; exact h2.symm) t' v ht)⟩
end
end Go.Rn
end
section
set_option maxRecDepth 4000
namespace Go.Rn
open Go.RowKit

variable {P : Program} {w : World} {env : Env} {dst : Option Tmp} {ty : TypeId} {pos : String} {after : Array Edge} {guard : Option (Nat × Bool)}

theorem OpV.of_run {op : Op} {v : Value} (h : ∀ ρ : Operand → Value, (∀ x v, evO env x = some v → ρ x = v) → ∃ s : Sem Value, execOp ρ ⟨dst, op, ty, pos, after, guard⟩ = (do pure (.value (← s)) : Sem Next) ∧ s.run P w = .ok v w) :
  OpV P env w ⟨dst, op, ty, pos, after, guard⟩ v := fun ρ hρ => by
 obtain ⟨s, hs, hr⟩ := h ρ hρ
 rw [hs, run_bind _ _ hr]; rfl

theorem OpE.of_run {op : Op} {v : Value} {w' : World} {R : Value → World → Prop} {X : List PanicEntry → World → Prop} (hR : R v w')
  (h : ∀ ρ : Operand → Value, (∀ x v, evO env x = some v → ρ x = v) → ∃ s : Sem Value, execOp ρ ⟨dst, op, ty, pos, after, guard⟩ = (do pure (.value (← s)) : Sem Next) ∧ s.run P w = .ok v w') :
  OpE P env w ⟨dst, op, ty, pos, after, guard⟩ R X := fun ρ hρ => by
 obtain ⟨s, hs, hr⟩ := h ρ hρ
 exact ExecE.of_value (w' := w') (v := v) (by rw [hs, run_bind _ _ hr]; rfl) hR

theorem OpV.load {t : TypeId} {x : Operand} {b o : Nat} {v : Value} (hx : evO env x = some (.pointer (some ⟨b, o, none⟩))) (hl : Loads P w t b o v) :
  OpV P env w ⟨dst, .load t x, ty, pos, after, guard⟩ v := .of_run fun ρ hρ => by
 refine ⟨_, by simp only [execOp, hρ _ _ hx]; rfl, ?_⟩
 unfold Instr.loadAt
 rw [run_bind _ _ (show (Instr.sureAddr (.pointer (some ⟨b, o, none⟩))).run P w = .ok ⟨b, o, none⟩ w from rfl)]
 exact hl

theorem OpV.indexS {T : Tab} (hT : T.Ok P) {t e : TypeId} {sz : Nat} {ag : Bool} {s bb : Nat} {z : List Value} {a u : Bool} {x ix : Operand} {b o len cap : Nat} {kd : IntKind} {i : Int} (j : Nat)
  (ht : T.get t = some ⟨.slc sz ag e, s, bb, z, a, u⟩) (hx : evO env x = some (.slice (some ⟨b, o, none⟩) len cap)) (hi : evO env ix = some (.int kd i)) (hj : i = (j : Int)) (hlt : j < len) :
  OpV P env w ⟨dst, .indexAddr t x ix, ty, pos, after, guard⟩ (.pointer (some ⟨b, o + j * sz, none⟩)) := .of_run fun ρ hρ => by
 refine ⟨_, by simp only [execOp, hρ _ _ hx, hρ _ _ hi]; rfl, ?_⟩
 subst hj
 obtain ⟨hu, hc⟩ := TD.of_slc (TI.tdof (hT.get _ _ ht)).symm
 obtain ⟨i, dd, hi, hsz, _, _⟩ := cellsAgg_inv hc
 simp [Instr.indexAt, asIntOf, bind, Sem.bind, Sem.run, underlying, program, hu, Pure.pure, hlt, sizeOf, typeInfo, hi, hsz, add_none]

theorem OpV.indexA {T : Tab} (hT : T.Ok P) {t e : TypeId} {m sz : Nat} {ag : Bool} {s bb : Nat} {z : List Value} {a u : Bool} {x ix : Operand} {b o : Nat} {kd : IntKind} {i : Int} (j : Nat)
  (ht : T.get t = some ⟨.arr m sz ag e, s, bb, z, a, u⟩) (hx : evO env x = some (.pointer (some ⟨b, o, none⟩))) (hi : evO env ix = some (.int kd i)) (hj : i = (j : Int)) (hlt : j < m) :
  OpV P env w ⟨dst, .indexAddr t x ix, ty, pos, after, guard⟩ (.pointer (some ⟨b, o + j * sz, none⟩)) := .of_run fun ρ hρ => by
 refine ⟨_, by simp only [execOp, hρ _ _ hx, hρ _ _ hi]; rfl, ?_⟩
 subst hj
 obtain ⟨hu, hc⟩ := TD.of_arr (TI.tdof (hT.get _ _ ht)).symm
 obtain ⟨i, dd, hi, hsz, _, _⟩ := cellsAgg_inv hc
 simp [Instr.indexAt, Instr.sureAddr, asIntOf, bind, Sem.bind, Sem.run, underlying, program, hu, Pure.pure, hlt, sizeOf, typeInfo, hi, hsz, add_none]

inductive Bnd (env : Env) : Option Operand → Nat → Nat → Prop where
 | none {n : Nat} : Bnd env none n n
 | some {x : Operand} {k : IntKind} {i : Int} {n m : Nat} (h : evO env x = some (.int k i)) (hi : i = (m : Int)) : Bnd env (some x) n m

theorem run_sliceBound {k : IntKind} {m y : Nat} (h : m ≤ y) (code : BoundsCode) : (Instr.sliceBound (.int k (m : Int)) y code).run P w = .ok m w := by
 unfold Instr.sliceBound
 rw [run_bind _ _ (show (asIntOf (.int k (m : Int))).run P w = .ok (k, (m : Int)) w from rfl)]
 simp only
 rw [if_pos (by omega)]
 rfl

theorem run_sliceBounds {ρ : Operand → Value} (hρ : ∀ x v, evO env x = some v → ρ x = v) {low high mx : Option Operand} {len cap lo hi m : Nat} (b : Bool) (hl : Bnd env low 0 lo) (hh : Bnd env high len hi) (hm : Bnd env mx cap m)
  (hq : mx = none ∨ high ≠ none) (h1 : lo ≤ hi) (h2 : hi ≤ m) (h3 : m ≤ cap) :
  (Instr.sliceBounds b len cap (low.map ρ) (high.map ρ) (mx.map ρ)).run P w = .ok (lo, hi, m) w := by
 have hb : ∀ {k : IntKind} {m y : Nat} (h : m ≤ y) (code : BoundsCode), (Instr.sliceBound (.int k (m : Int)) y code).run P w = .ok m w := fun h code => run_sliceBound h code
 unfold Instr.sliceBounds
 cases hm with
 | none =>
  cases hh with
  | none =>
   cases hl with
   | none => rfl
   | some g gi => subst gi; simp [hρ _ _ g, Sem.run_bind, hb h1, Result.andThen, Pure.pure]
  | some h hi =>
   subst hi
   cases hl with
   | none => simp [hρ _ _ h, Sem.run_bind, hb h2, Result.andThen, Pure.pure]
   | some g gi => subst gi; simp [hρ _ _ g, hρ _ _ h, Sem.run_bind, hb h1, hb h2, Result.andThen, Pure.pure]
 | some f fi =>
  subst fi
  cases hh with
  | none => exact absurd rfl (hq.resolve_left (by simp))
  | some h hi =>
   subst hi
   cases hl with
   | none => simp [hρ _ _ f, hρ _ _ h, Sem.run_bind, hb h2, hb h3, Result.andThen, Pure.pure]
   | some g gi => subst gi; simp [hρ _ _ f, hρ _ _ g, hρ _ _ h, Sem.run_bind, hb h1, hb h2, hb h3, Result.andThen, Pure.pure]

def offOf (o lo m sz : Nat) : Nat := if m = lo then o else o + lo * sz
theorem offOf_zero (o m sz : Nat) : offOf o 0 m sz = o := by unfold offOf; split <;> simp
theorem OpV.sliceS {T : Tab} (hT : T.Ok P) {t e : TypeId} {sz : Nat} {ag : Bool} {s bb : Nat} {z : List Value} {a u : Bool} {x : Operand} {low high mx : Option Operand} {b o len cap lo hi m : Nat}
  (ht : T.get t = some ⟨.slc sz ag e, s, bb, z, a, u⟩) (hx : evO env x = some (.slice (some ⟨b, o, none⟩) len cap)) (hl : Bnd env low 0 lo) (hh : Bnd env high len hi) (hm : Bnd env mx cap m)
  (hq : mx = none ∨ high ≠ none) (h1 : lo ≤ hi) (h2 : hi ≤ m) (h3 : m ≤ cap) :
  OpV P env w ⟨dst, .slice t x low high mx, ty, pos, after, guard⟩ (.slice (some ⟨b, offOf o lo m sz, none⟩) (hi - lo) (m - lo)) := .of_run fun ρ hρ => by
 refine ⟨_, by simp only [execOp, hρ _ _ hx]; rfl, ?_⟩
 obtain ⟨hu, hc⟩ := TD.of_slc (TI.tdof (hT.get _ _ ht)).symm
 obtain ⟨i, dd, hi, hsz, _, _⟩ := cellsAgg_inv hc
 unfold Instr.sliceAt
 rw [run_bind _ _ (run_underlying hu)]
 simp only
 unfold Instr.slice
 rw [run_bind _ _ (run_underlying hu)]
 simp only
 rw [run_bind _ _ (run_sliceBounds hρ true hl hh hm hq h1 h2 h3)]
 simp only
 rw [run_bind _ _ (run_sizeOf hi), hsz]
 unfold offOf
 by_cases h : m = lo
 ·rw [if_pos h, if_pos h]; rfl
 ·rw [if_neg h, if_neg h]; simp only [Option.map_some, add_none]; rfl

theorem OpV.load1 {T : Tab} (hT : T.Ok P) {t : TypeId} {i : TI} {x : Operand} {b o : Nat} {v : Value} (ht : T.get t = some i) (ha : i.agg = false) (hx : evO env x = some (.pointer (some ⟨b, o, none⟩)))
  (h : w.cell? ⟨b, o, none⟩ = some v) : OpV P env w ⟨dst, .load t x, ty, pos, after, guard⟩ v := .load hx (.scalar hT ht ha h)
theorem OpV.loadN {T : Tab} (hT : T.Ok P) {t : TypeId} {i : TI} {x : Operand} {b o : Nat} {cs : List Value} (ht : T.get t = some i) (ha : i.agg = true) (hx : evO env x = some (.pointer (some ⟨b, o, none⟩)))
  (hl : cs.length = i.size) (h : Row w b o cs) : OpV P env w ⟨dst, .load t x, ty, pos, after, guard⟩ (.agg cs.toArray) := .load hx (.agg hT ht ha hl h)

theorem OpE.callV {f : Operand} {fv : Value} {args : Array Operand} {ts : Array TypeId} {vs : List Value} {R : Value → World → Prop} {X : List PanicEntry → World → Prop} (hf : evO env f = some fv) (ha : evL env args.toList = some vs)
  (hc : FnV P fv vs w R X) : OpE P env w ⟨dst, .call ⟨.value f, args, ts⟩, ty, pos, after, guard⟩ R X := fun ρ hρ => by
 have e : execOp ρ ⟨dst, .call ⟨.value f, args, ts⟩, ty, pos, after, guard⟩ = (do let d ← Deferred.ofValue fv vs.toArray; invoke d.target d.args) := by
  simp only [execOp, resolve, hρ _ _ hf, evL_mapA hρ ha]
 rw [e]; exact hc
theorem OpE.call {g : FuncId} {args : Array Operand} {ts : Array TypeId} {vs : List Value} {R : Value → World → Prop} {X : List PanicEntry → World → Prop} (ha : evL env args.toList = some vs)
  (hc : RetsX P g vs w R X) : OpE P env w ⟨dst, .call ⟨.value (.func g), args, ts⟩, ty, pos, after, guard⟩ R X :=
 .callV (fv := .func (.func g) #[] #[]) rfl ha (RetsX.v (fi := []) (ca := []) (by simpa using hc))
theorem Row.window {b o k : Nat} {cs ds : List Value} (h : Row w b o cs) (hs : ∀ i v, ds[i]? = some v → cs[k + i]? = some v) : Row w b (o + k) ds := fun i v hv => by
 rw [Nat.add_assoc]; exact h _ _ (hs i v hv)
theorem Row.drop {b o : Nat} {cs : List Value} (h : Row w b o cs) (k : Nat) : Row w b (o + k) (cs.drop k) := h.window fun i v hv => by rwa [List.getElem?_drop] at hv
theorem Blk.rowAt {b : Nat} {cs : List Value} {t : TypeId} (h : Blk w b cs t) (k : Nat) {ds : List Value} (hs : ∀ i v, ds[i]? = some v → cs[k + i]? = some v) : Row w b k ds := by
 have := (h.row).window hs; rwa [Nat.zero_add] at this

end Go.Rn
end
section
set_option maxRecDepth 4000
namespace Go.Rn
open Go.RowKit

variable {P : Program} {w : World} {env : Env} {dst : Option Tmp} {ty : TypeId} {pos : String} {after : Array Edge} {guard : Option (Nat × Bool)}

theorem ExtB.of_grown {w w' : World} {row : Option Nat} (h : w.grownBy w' row) (hd : w.drawn ≤ w'.drawn) : ExtB (fun k => row = some k) w w' :=
 ⟨hd, h.os, h.tape, h.output, h.size, fun k hk hn => h.block k hk fun e => hn e.symm⟩

inductive IsSl (w : World) (sz : Nat) : Value → Nat → List Value → Prop where
 | nil {d : Option Addr} : IsSl w sz (.slice d 0 0) 0 []
 | row {b o n cap : Nat} {cs : List Value} (hr : Row w b o cs) (hl : cs.length = n * sz) (hc : n ≤ cap) : IsSl w sz (.slice (some ⟨b, o, none⟩) n cap) n cs

theorem one_plain {u : Value} (h : plainV u = true) : u.oneCell' = true := by cases u <;> first | rfl | (simp [plainV] at h)

theorem OpE.append' {T : Tab} (hT : T.Ok P) {t e : TypeId} {sz : Nat} {ag : Bool} {s bb : Nat} {z : List Value} {a u : Bool} {ie : TI} {x y : Operand} {v vx : Value} {n m base : Nat} {xs news : List Value}
  (ht : T.get t = some ⟨.slc sz ag e, s, bb, z, a, u⟩) (he : T.get e = some ie) (hz : ie.zero.length = sz) (hsz : Nat.blt 0 sz = true)
  (hx : evO env x = some v) (hy : evO env y = some vx) (hv : w.ownsRow base e sz v n xs) (hn : IsSl w sz vx m news) (hp : news.all plainV = true)
  (hbytes : (n + m) * ie.bytes ≤ 140737488355328) (h63 : n + m ≤ 9223372036854775807) (hbase : base ≤ w.heap.size) :
  OpE P env w ⟨dst, .call ⟨.builtin .append, #[x, y], #[t, t]⟩, ty, pos, after, guard⟩
   (fun v' w' => w'.ownsRow base e sz v' (n + m) (xs ++ news) ∧ ExtB (fun k => v.ownBlock = some k) w w' ∧ ∀ k, v'.ownBlock = some k → k < w.heap.size → v.ownBlock = some k) fun _ _ => False := by
 obtain ⟨hu, hc⟩ := TD.of_slc (TI.tdof (hT.get _ _ ht)).symm
 obtain ⟨j, dd, zv, hj, hd, hzv, h1, h2, h3, h4, h5, _⟩ := TI.inv (hT.get _ _ he)
 obtain ⟨i, d', hi, hs', _, _⟩ := cellsAgg_inv hc
 rw [hi] at hj; cases hj
 have hsz' : 0 < sz := by simpa [Nat.blt_eq] using hsz
 have hzs : zv.cells.size = sz := by rw [← hz, h3]; simp
 have call : ∀ {v' : Value} {w' : World}, (Builtin.append_ #[t, t] ty #[v, vx]).run P w = .ok v' w' → ∀ ρ : Operand → Value, (∀ x v, evO env x = some v → ρ x = v) →
   ∃ s : Sem Value, execOp ρ ⟨dst, .call ⟨.builtin .append, #[x, y], #[t, t]⟩, ty, pos, after, guard⟩ = (do pure (.value (← s)) : Sem Next) ∧ s.run P w = .ok v' w' := fun hr ρ hρ =>
  ⟨_, by simp only [execOp, resolve, List.map_toArray, List.map_cons, List.map_nil, hρ _ _ hx, hρ _ _ hy]; rfl, hr⟩
 cases hn with
 | @nil d0 =>
  have hr : (Builtin.append_ #[t, t] ty #[v, .slice d0 0 0]).run P w = .ok v w := by
   have hf : ∀ w, (Builtin.firstCells j.size 0 (.slice d0 0 0)).run P w = .ok #[] w := fun w => by cases d0 <;> simp [Builtin.firstCells, loadCells, loadCellsFrom, Pure.pure]
   rcases hv.2 with ⟨rfl, rfl⟩ | ⟨g, cap, cur, rfl, hbg, hg, hnc, hcm, hcs, htake⟩
   ·simp [Builtin.append_, run_underlying hu, sizeOf, typeInfo, hi, Builtin.lenOf, hf]
   ·simp [Builtin.append_, run_underlying hu, sizeOf, typeInfo, hi, Builtin.lenOf, hf, hnc, storeCells]
  refine .of_run (w' := w) (v := v) ⟨by simpa using hv, ExtB.refl _ _, fun _ h _ => h⟩ (call hr)
 | @row b o _ c _ hr hl hcap =>
  obtain ⟨v', w', hrun, hown, hgr, -⟩ := run_append_own (P := P) (w := w) base t ty e j zv sz j.bytes hu hi hzv hs' rfl hzs hsz' v n xs hv ⟨b, o, none⟩ m c news hl
   (fun j u hj => by rw [add_none]; exact hr j u hj) (fun u hu => one_plain (List.all_eq_true.1 hp u hu)) h63 (by rw [← h2]; exact hbytes) hbase
  refine .of_run (w' := w') (v := v') ⟨hown, .of_grown hgr (run_drawn _ hrun), ?_⟩ (call hrun)
  have hby : (n + m) * j.bytes ≤ 140737488355328 := by rw [← h2]; exact hbytes
  have hnews : ∀ (q : Nat) u, news[q]? = some u → w.cell? ((⟨b, o, none⟩ : Addr).add q) = some u := fun q u hq => by rw [add_none]; exact hr q u hq
  have hone : ∀ u ∈ news, u.oneCell' = true := fun u hu => one_plain (List.all_eq_true.1 hp u hu)
  rcases hv.2 with ⟨rfl, rfl⟩ | ⟨g, vcap, cur, rfl, hbg, hg, hnc, hcm, hcs, htake⟩
  ·by_cases hm : m = 0
   ·subst hm
    have hrun2 : (Builtin.append_ #[t, t] ty #[.slice none 0 0, .slice (some ⟨b, o, none⟩) 0 c]).run P w = .ok (.slice none 0 0) w := by
     simp [Builtin.append_, run_underlying hu, sizeOf, typeInfo, hi, Builtin.lenOf, Builtin.firstCells, loadCells, loadCellsFrom]
    rw [hrun2] at hrun
    injection hrun with e1 _
    subst e1; intro k hk; simp [Value.ownBlock] at hk
   ·have hrun2 := run_append_nil (P := P) w t ty e j zv hu hi hzv ⟨b, o, none⟩ m c news (by rw [hl, hs']) hnews (by omega) (by omega) (by rw [Nat.zero_add] at hby; omega)
    rw [hrun2] at hrun
    injection hrun with e1 _
    subst e1; intro k hk hlt; simp [Value.ownBlock] at hk; omega
  ·by_cases hroom : n + m ≤ vcap
   ·have hrun2 := run_append_room (P := P) w t ty e j hu hi g n vcap cur hg ⟨b, o, none⟩ m c news (by rw [hl, hs']) hnews hone hroom (by rw [hl, hs', hcs, ← Nat.add_mul]; exact Nat.mul_le_mul_right _ hroom)
    rw [hrun2] at hrun
    injection hrun with e1 _
    subst e1; intro k hk _; exact hk
   ·have hrun2 := run_append_grow (P := P) w t ty e j zv hu hi hzv ⟨g, 0, none⟩ n vcap xs (by rw [hv.1, hs']) (hv.cells (g := g) rfl) ⟨b, o, none⟩ m c news (by rw [hl, hs']) hnews (by omega) (by omega) (growslice_fits (by omega) hby)
    rw [hrun2] at hrun
    injection hrun with e1 _
    subst e1; intro k hk hlt; simp [Value.ownBlock] at hk; omega

theorem OpE.make {T : Tab} (hT : T.Ok P) {t e : TypeId} {sz : Nat} {ag : Bool} {s bb : Nat} {z : List Value} {a u : Bool} {ie : TI} {x y : Operand} {kl kc : IntKind} {i j : Int} {l c : Nat}
  (ht : T.get t = some ⟨.slc sz ag e, s, bb, z, a, u⟩) (he : T.get e = some ie) (hz : ie.zero.length = sz)
  (hx : evO env x = some (.int kl i)) (hy : evO env y = some (.int kc j)) (hi : i = (l : Int)) (hj : j = (c : Int)) (hlc : l ≤ c) (hb : ie.bytes * c ≤ 281474976710656) (h63 : c ≤ 9223372036854775807) :
  OpE P env w ⟨dst, .makeSlice t x y, ty, pos, after, guard⟩ (fun v w' => ∃ B, v = .slice (some ⟨B, 0, none⟩) l c ∧ Added w w' B (.cells (zerosL ie.zero c).toArray e (0, 0))) fun _ _ => False := by
 obtain ⟨hu, hc⟩ := TD.of_slc (TI.tdof (hT.get _ _ ht)).symm
 obtain ⟨q, dd, zv, hq, hd, hzv, h1, h2, h3, h4, h5, _⟩ := TI.inv (hT.get _ _ he)
 obtain ⟨i', d', hi', hs', _, _⟩ := cellsAgg_inv hc
 rw [hi'] at hq; cases hq
 subst hi; subst hj
 have hzs : zv.cells.size = sz := by rw [← hz, h3]; simp
 have hr := run_make (P := P) (w := w) t e q zv hu hi' hzv kl kc (l : Int) (c : Int) (by omega) (by omega) (by rw [← h2]; have := Int.ofNat_le.2 hb; simpa using this) (by omega)
 refine .of_run (w' := _) (v := _) ⟨w.heap.size, rfl, ?_⟩ fun ρ hρ => ⟨_, by simp only [execOp, hρ _ _ hx, hρ _ _ hy] <;> rfl, hr⟩
 have : madeCells zv.cells ((c : Int).toNat * q.size) = (zerosL ie.zero c).toArray := by
  apply Array.ext'
  unfold madeCells
  rw [hs', ← hzs, Int.toNat_natCast, range_zeros, h3]
 rw [this]
 exact added_push w _

end Go.Rn
end
section
namespace Go.Proofs
open Go.Rn
def Tryz.T : Tab := [
 (1, ⟨.fn, 1, 8, [.nilFunc], false, false⟩),
 (2, ⟨.int .i64, 1, 8, [.int .i64 0], false, false⟩),
 (3, ⟨.int .i64, 1, 8, [.int .i64 0], false, false⟩),
 (4, ⟨.bool, 1, 1, [.bool false], false, false⟩),
 (5, ⟨.int .u8, 1, 1, [.int .u8 0], false, true⟩),
 (6, ⟨.int .u8, 1, 1, [.int .u8 0], false, true⟩),
 (7, ⟨.st [(0, 1, false), (1, 1, false), (2, 1, false), (3, 1, false)], 4, 24, [.int .i64 0, .int .i64 0, .bool false, .int .u8 0], true, false⟩),
 (8, ⟨.st [(0, 1, false), (1, 1, false), (2, 1, false), (3, 1, false)], 4, 24, [.int .i64 0, .int .i64 0, .bool false, .int .u8 0], true, false⟩),
 (9, ⟨.str, 1, 16, [.string ⟨#[]⟩], false, false⟩),
 (10, ⟨.str, 1, 16, [.string ⟨#[]⟩], false, false⟩),
 (11, ⟨.str, 1, 16, [.string ⟨#[]⟩], false, false⟩),
 (12, ⟨.int .u64, 1, 8, [.int .u64 0], false, false⟩),
 (13, ⟨.st [(0, 1, false), (1, 1, false)], 2, 24, [.string ⟨#[]⟩, .int .u64 0], true, false⟩),
 (14, ⟨.st [(0, 1, false), (1, 1, false)], 2, 24, [.string ⟨#[]⟩, .int .u64 0], true, false⟩),
 (15, ⟨.ptr, 1, 8, [.pointer none], false, false⟩),
 (16, ⟨.ptr, 1, 8, [.pointer none], false, false⟩),
 (17, ⟨.ptr, 1, 8, [.pointer none], false, false⟩),
 (18, ⟨.st [(0, 1, false)], 1, 8, [.pointer none], true, false⟩),
 (19, ⟨.st [(0, 1, false)], 1, 8, [.pointer none], true, false⟩),
 (20, ⟨.iface, 1, 16, [.nilIface], false, false⟩),
 (21, ⟨.int .i32, 1, 4, [.int .i32 0], false, false⟩),
 (22, ⟨.slc 7 true 131, 1, 24, [.slice none 0 0], false, false⟩),
 (23, ⟨.slc 10 true 134, 1, 24, [.slice none 0 0], false, false⟩),
 (24, ⟨.slc 7 true 137, 1, 24, [.slice none 0 0], false, false⟩),
 (25, ⟨.slc 8 true 105, 1, 24, [.slice none 0 0], false, false⟩),
 (26, ⟨.slc 13 true 82, 1, 24, [.slice none 0 0], false, false⟩),
 (27, ⟨.slc 41 true 42, 1, 24, [.slice none 0 0], false, false⟩),
 (28, ⟨.slc 8 true 145, 1, 24, [.slice none 0 0], false, false⟩),
 (29, ⟨.st [(0, 1, false), (1, 1, false), (2, 1, false), (3, 1, false), (4, 1, false), (5, 1, false), (6, 1, false)], 7, 168, List.replicate 7 (.slice none 0 0), true, false⟩),
 (30, ⟨.st [(0, 1, false), (1, 1, false), (2, 1, false), (3, 1, false), (4, 1, false), (5, 1, false), (6, 1, false)], 7, 168, List.replicate 7 (.slice none 0 0), true, false⟩),
 (31, ⟨.slc 1 false 3, 1, 24, [.slice none 0 0], false, false⟩),
 (32, ⟨.slc 5 true 157, 1, 24, [.slice none 0 0], false, false⟩),
 (33, ⟨.st [(0, 1, false), (1, 1, false), (2, 1, false), (3, 1, false)], 4, 64, [.int .i64 0, .int .i64 0, .slice none 0 0, .slice none 0 0], true, false⟩),
 (34, ⟨.st [(0, 1, false), (1, 1, false), (2, 1, false), (3, 1, false)], 4, 64, [.int .i64 0, .int .i64 0, .slice none 0 0, .slice none 0 0], true, false⟩),
 (35, ⟨.int .i64, 1, 8, [.int .i64 0], false, false⟩),
 (37, ⟨.fn, 1, 8, [.nilFunc], false, false⟩),
 (38, ⟨.fn, 1, 8, [.nilFunc], false, false⟩),
 (39, ⟨.arr 32 1 false 5, 32, 32, List.replicate 32 (.int .u8 0), true, false⟩),
 (40, ⟨.arr 32 1 false 5, 32, 32, List.replicate 32 (.int .u8 0), true, false⟩),
 (41, ⟨.st [(0, 1, false), (1, 1, false), (2, 1, false), (3, 1, false), (4, 1, false), (5, 1, false), (6, 1, false), (7, 1, false), (8, 1, false), (9, 32, true)], 41, 152, [.int .i64 0, .int .i64 0, .int .i64 0, .int .i64 0, .int .i64 0, .int .i64 0, .slice none 0 0, .slice none 0 0, .slice none 0 0, .int .u8 0, .int .u8 0, .int .u8 0, .int .u8 0, .int .u8 0, .int .u8 0, .int .u8 0, .int .u8 0, .int .u8 0, .int .u8 0, .int .u8 0, .int .u8 0, .int .u8 0, .int .u8 0, .int .u8 0, .int .u8 0, .int .u8 0, .int .u8 0, .int .u8 0, .int .u8 0, .int .u8 0, .int .u8 0, .int .u8 0, .int .u8 0, .int .u8 0, .int .u8 0, .int .u8 0, .int .u8 0, .int .u8 0, .int .u8 0, .int .u8 0, .int .u8 0], true, false⟩),
 (42, ⟨.st [(0, 1, false), (1, 1, false), (2, 1, false), (3, 1, false), (4, 1, false), (5, 1, false), (6, 1, false), (7, 1, false), (8, 1, false), (9, 32, true)], 41, 152, [.int .i64 0, .int .i64 0, .int .i64 0, .int .i64 0, .int .i64 0, .int .i64 0, .slice none 0 0, .slice none 0 0, .slice none 0 0, .int .u8 0, .int .u8 0, .int .u8 0, .int .u8 0, .int .u8 0, .int .u8 0, .int .u8 0, .int .u8 0, .int .u8 0, .int .u8 0, .int .u8 0, .int .u8 0, .int .u8 0, .int .u8 0, .int .u8 0, .int .u8 0, .int .u8 0, .int .u8 0, .int .u8 0, .int .u8 0, .int .u8 0, .int .u8 0, .int .u8 0, .int .u8 0, .int .u8 0, .int .u8 0, .int .u8 0, .int .u8 0, .int .u8 0, .int .u8 0, .int .u8 0, .int .u8 0], true, false⟩),
 (44, ⟨.fn, 1, 8, [.nilFunc], false, false⟩),
 (46, ⟨.fn, 1, 8, [.nilFunc], false, false⟩),
 (47, ⟨.fn, 1, 8, [.nilFunc], false, false⟩),
 (48, ⟨.slc 1 false 4, 1, 24, [.slice none 0 0], false, false⟩),
 (50, ⟨.fn, 1, 8, [.nilFunc], false, false⟩),
 (51, ⟨.fn, 1, 8, [.nilFunc], false, false⟩),
 (52, ⟨.fn, 1, 8, [.nilFunc], false, false⟩),
 (53, ⟨.ptr, 1, 8, [.pointer none], false, false⟩),
 (54, ⟨.fn, 1, 8, [.nilFunc], false, false⟩),
 (55, ⟨.fn, 1, 8, [.nilFunc], false, false⟩),
 (57, ⟨.fn, 1, 8, [.nilFunc], false, false⟩),
 (58, ⟨.fn, 1, 8, [.nilFunc], false, false⟩),
 (59, ⟨.st [(0, 7, true), (7, 41, true), (48, 1, false), (49, 1, false)], 50, 336, [.slice none 0 0, .slice none 0 0, .slice none 0 0, .slice none 0 0, .slice none 0 0, .slice none 0 0, .slice none 0 0, .int .i64 0, .int .i64 0, .int .i64 0, .int .i64 0, .int .i64 0, .int .i64 0, .slice none 0 0, .slice none 0 0, .slice none 0 0, .int .u8 0, .int .u8 0, .int .u8 0, .int .u8 0, .int .u8 0, .int .u8 0, .int .u8 0, .int .u8 0, .int .u8 0, .int .u8 0, .int .u8 0, .int .u8 0, .int .u8 0, .int .u8 0, .int .u8 0, .int .u8 0, .int .u8 0, .int .u8 0, .int .u8 0, .int .u8 0, .int .u8 0, .int .u8 0, .int .u8 0, .int .u8 0, .int .u8 0, .int .u8 0, .int .u8 0, .int .u8 0, .int .u8 0, .int .u8 0, .int .u8 0, .int .u8 0, .int .i64 0, .int .i64 0], true, false⟩),
 (60, ⟨.st [(0, 7, true), (7, 41, true), (48, 1, false), (49, 1, false)], 50, 336, [.slice none 0 0, .slice none 0 0, .slice none 0 0, .slice none 0 0, .slice none 0 0, .slice none 0 0, .slice none 0 0, .int .i64 0, .int .i64 0, .int .i64 0, .int .i64 0, .int .i64 0, .int .i64 0, .slice none 0 0, .slice none 0 0, .slice none 0 0, .int .u8 0, .int .u8 0, .int .u8 0, .int .u8 0, .int .u8 0, .int .u8 0, .int .u8 0, .int .u8 0, .int .u8 0, .int .u8 0, .int .u8 0, .int .u8 0, .int .u8 0, .int .u8 0, .int .u8 0, .int .u8 0, .int .u8 0, .int .u8 0, .int .u8 0, .int .u8 0, .int .u8 0, .int .u8 0, .int .u8 0, .int .u8 0, .int .u8 0, .int .u8 0, .int .u8 0, .int .u8 0, .int .u8 0, .int .u8 0, .int .u8 0, .int .u8 0, .int .i64 0, .int .i64 0], true, false⟩),
 (61, ⟨.fn, 1, 8, [.nilFunc], false, false⟩),
 (62, ⟨.fn, 1, 8, [.nilFunc], false, false⟩),
 (63, ⟨.fn, 1, 8, [.nilFunc], false, false⟩),
 (64, ⟨.st [(0, 1, false), (1, 1, false)], 2, 16, [.int .i64 0, .nilFunc], true, false⟩),
 (65, ⟨.fn, 1, 8, [.nilFunc], false, false⟩),
 (66, ⟨.ptr, 1, 8, [.pointer none], false, false⟩),
 (67, ⟨.slc 2 true 64, 1, 24, [.slice none 0 0], false, false⟩),
 (68, ⟨.fn, 1, 8, [.nilFunc], false, false⟩),
 (69, ⟨.fn, 1, 8, [.nilFunc], false, false⟩),
 (70, ⟨.fn, 1, 8, [.nilFunc], false, false⟩),
 (71, ⟨.fn, 1, 8, [.nilFunc], false, false⟩),
 (72, ⟨.fn, 1, 8, [.nilFunc], false, false⟩),
 (73, ⟨.fn, 1, 8, [.nilFunc], false, false⟩),
 (74, ⟨.slc 1 false 9, 1, 24, [.slice none 0 0], false, false⟩),
 (75, ⟨.slc 8 true 121, 1, 24, [.slice none 0 0], false, false⟩),
 (76, ⟨.slc 5 true 78, 1, 24, [.slice none 0 0], false, false⟩),
 (77, ⟨.st [(0, 1, false), (1, 1, false), (2, 1, false), (3, 1, false), (4, 1, false)], 5, 64, [.int .i64 0, .int .i64 0, .int .i64 0, .string ⟨#[]⟩, .slice none 0 0], true, false⟩),
 (78, ⟨.st [(0, 1, false), (1, 1, false), (2, 1, false), (3, 1, false), (4, 1, false)], 5, 64, [.int .i64 0, .int .i64 0, .int .i64 0, .string ⟨#[]⟩, .slice none 0 0], true, false⟩),
 (79, ⟨.st [(0, 1, false), (1, 1, false), (2, 1, false), (3, 1, false), (4, 5, true), (9, 1, false)], 10, 160, [.string ⟨#[]⟩, .slice none 0 0, .slice none 0 0, .slice none 0 0, .int .i64 0, .int .i64 0, .int .i64 0, .string ⟨#[]⟩, .slice none 0 0, .int .i64 0], true, false⟩),
 (80, ⟨.st [(0, 1, false), (1, 1, false), (2, 1, false), (3, 1, false), (4, 5, true), (9, 1, false)], 10, 160, [.string ⟨#[]⟩, .slice none 0 0, .slice none 0 0, .slice none 0 0, .int .i64 0, .int .i64 0, .int .i64 0, .string ⟨#[]⟩, .slice none 0 0, .int .i64 0], true, false⟩),
 (81, ⟨.st [(0, 1, false), (1, 1, false), (2, 1, false), (3, 10, true)], 13, 184, [.int .i64 0, .int .i64 0, .int .i64 0, .string ⟨#[]⟩, .slice none 0 0, .slice none 0 0, .slice none 0 0, .int .i64 0, .int .i64 0, .int .i64 0, .string ⟨#[]⟩, .slice none 0 0, .int .i64 0], true, false⟩),
 (82, ⟨.st [(0, 1, false), (1, 1, false), (2, 1, false), (3, 10, true)], 13, 184, [.int .i64 0, .int .i64 0, .int .i64 0, .string ⟨#[]⟩, .slice none 0 0, .slice none 0 0, .slice none 0 0, .int .i64 0, .int .i64 0, .int .i64 0, .string ⟨#[]⟩, .slice none 0 0, .int .i64 0], true, false⟩),
 (83, ⟨.fn, 1, 8, [.nilFunc], false, false⟩),
 (84, ⟨.fn, 1, 8, [.nilFunc], false, false⟩),
 (85, ⟨.map 3 84, 1, 8, [.map none], false, false⟩),
 (86, ⟨.fn, 1, 8, [.nilFunc], false, false⟩),
 (87, ⟨.fn, 1, 8, [.nilFunc], false, false⟩),
 (88, ⟨.fn, 1, 8, [.nilFunc], false, false⟩),
 (89, ⟨.fn, 1, 8, [.nilFunc], false, false⟩),
 (90, ⟨.fn, 1, 8, [.nilFunc], false, false⟩),
 (91, ⟨.fn, 1, 8, [.nilFunc], false, false⟩),
 (92, ⟨.fn, 1, 8, [.nilFunc], false, false⟩),
 (93, ⟨.fn, 1, 8, [.nilFunc], false, false⟩),
 (94, ⟨.fn, 1, 8, [.nilFunc], false, false⟩),
 (95, ⟨.slc 1 false 35, 1, 24, [.slice none 0 0], false, false⟩),
 (96, ⟨.fn, 1, 8, [.nilFunc], false, false⟩),
 (97, ⟨.ptr, 1, 8, [.pointer none], false, false⟩),
 (98, ⟨.fn, 1, 8, [.nilFunc], false, false⟩),
 (100, ⟨.fn, 1, 8, [.nilFunc], false, false⟩),
 (101, ⟨.fn, 1, 8, [.nilFunc], false, false⟩),
 (102, ⟨.fn, 1, 8, [.nilFunc], false, false⟩),
 (103, ⟨.fn, 1, 8, [.nilFunc], false, false⟩),
 (104, ⟨.st [(0, 1, false), (1, 1, false), (2, 1, false), (3, 1, false), (4, 1, false), (5, 1, false), (6, 1, false), (7, 1, false)], 8, 64, [.int .i64 0, .int .i64 0, .int .i64 0, .int .i64 0, .int .i64 0, .int .i64 0, .int .i64 0, .bool false], true, false⟩),
 (105, ⟨.st [(0, 1, false), (1, 1, false), (2, 1, false), (3, 1, false), (4, 1, false), (5, 1, false), (6, 1, false), (7, 1, false)], 8, 64, [.int .i64 0, .int .i64 0, .int .i64 0, .int .i64 0, .int .i64 0, .int .i64 0, .int .i64 0, .bool false], true, false⟩),
 (106, ⟨.fn, 1, 8, [.nilFunc], false, false⟩),
 (107, ⟨.fn, 1, 8, [.nilFunc], false, false⟩),
 (108, ⟨.fn, 1, 8, [.nilFunc], false, false⟩),
 (109, ⟨.fn, 1, 8, [.nilFunc], false, false⟩),
 (110, ⟨.fn, 1, 8, [.nilFunc], false, false⟩),
 (111, ⟨.fn, 1, 8, [.nilFunc], false, false⟩),
 (112, ⟨.fn, 1, 8, [.nilFunc], false, false⟩),
 (113, ⟨.fn, 1, 8, [.nilFunc], false, false⟩),
 (114, ⟨.fn, 1, 8, [.nilFunc], false, false⟩),
 (115, ⟨.fn, 1, 8, [.nilFunc], false, false⟩),
 (116, ⟨.fn, 1, 8, [.nilFunc], false, false⟩),
 (118, ⟨.fn, 1, 8, [.nilFunc], false, false⟩),
 (119, ⟨.fn, 1, 8, [.nilFunc], false, false⟩),
 (120, ⟨.st [(0, 1, false), (1, 1, false), (2, 1, false), (3, 5, true)], 8, 96, [.string ⟨#[]⟩, .int .i64 0, .int .i64 0, .int .i64 0, .int .i64 0, .int .i64 0, .string ⟨#[]⟩, .slice none 0 0], true, false⟩),
 (121, ⟨.st [(0, 1, false), (1, 1, false), (2, 1, false), (3, 5, true)], 8, 96, [.string ⟨#[]⟩, .int .i64 0, .int .i64 0, .int .i64 0, .int .i64 0, .int .i64 0, .string ⟨#[]⟩, .slice none 0 0], true, false⟩),
 (122, ⟨.fn, 1, 8, [.nilFunc], false, false⟩),
 (123, ⟨.fn, 1, 8, [.nilFunc], false, false⟩),
 (124, ⟨.map 3 82, 1, 8, [.map none], false, false⟩),
 (125, ⟨.fn, 1, 8, [.nilFunc], false, false⟩),
 (126, ⟨.fn, 1, 8, [.nilFunc], false, false⟩),
 (127, ⟨.fn, 1, 8, [.nilFunc], false, false⟩),
 (128, ⟨.fn, 1, 8, [.nilFunc], false, false⟩),
 (129, ⟨.int .u64, 1, 8, [.int .u64 0], false, false⟩),
 (130, ⟨.st [(0, 1, false), (1, 1, false), (2, 1, false), (3, 1, false), (4, 1, false), (5, 1, false), (6, 1, false)], 7, 56, [.int .i64 0, .int .i64 0, .int .i64 0, .int .i64 0, .int .i64 0, .int .i64 0, .bool false], true, false⟩),
 (131, ⟨.st [(0, 1, false), (1, 1, false), (2, 1, false), (3, 1, false), (4, 1, false), (5, 1, false), (6, 1, false)], 7, 56, [.int .i64 0, .int .i64 0, .int .i64 0, .int .i64 0, .int .i64 0, .int .i64 0, .bool false], true, false⟩),
 (132, ⟨.fn, 1, 8, [.nilFunc], false, false⟩),
 (133, ⟨.st [(0, 1, false), (1, 1, false), (2, 1, false), (3, 1, false), (4, 1, false), (5, 1, false), (6, 1, false), (7, 1, false), (8, 1, false), (9, 1, false)], 10, 80, [.int .i64 0, .int .i64 0, .int .i64 0, .int .i64 0, .int .i64 0, .int .i64 0, .int .i64 0, .int .i64 0, .int .i64 0, .bool false], true, false⟩),
 (134, ⟨.st [(0, 1, false), (1, 1, false), (2, 1, false), (3, 1, false), (4, 1, false), (5, 1, false), (6, 1, false), (7, 1, false), (8, 1, false), (9, 1, false)], 10, 80, [.int .i64 0, .int .i64 0, .int .i64 0, .int .i64 0, .int .i64 0, .int .i64 0, .int .i64 0, .int .i64 0, .int .i64 0, .bool false], true, false⟩),
 (135, ⟨.fn, 1, 8, [.nilFunc], false, false⟩),
 (136, ⟨.st [(0, 1, false), (1, 1, false), (2, 1, false), (3, 1, false), (4, 1, false), (5, 1, false), (6, 1, false)], 7, 48, [.int .i64 0, .int .i64 0, .int .i64 0, .int .i64 0, .int .i64 0, .bool false, .bool false], true, false⟩),
 (137, ⟨.st [(0, 1, false), (1, 1, false), (2, 1, false), (3, 1, false), (4, 1, false), (5, 1, false), (6, 1, false)], 7, 48, [.int .i64 0, .int .i64 0, .int .i64 0, .int .i64 0, .int .i64 0, .bool false, .bool false], true, false⟩),
 (138, ⟨.fn, 1, 8, [.nilFunc], false, false⟩),
 (139, ⟨.fn, 1, 8, [.nilFunc], false, false⟩),
 (140, ⟨.map 3 3, 1, 8, [.map none], false, false⟩),
 (141, ⟨.st [(0, 1, false), (1, 1, false)], 2, 32, [.slice none 0 0, .map none], true, false⟩),
 (142, ⟨.st [(0, 1, false), (1, 1, false)], 2, 32, [.slice none 0 0, .map none], true, false⟩),
 (143, ⟨.fn, 1, 8, [.nilFunc], false, false⟩),
 (144, ⟨.st [(0, 1, false), (1, 1, false), (2, 1, false), (3, 1, false), (4, 1, false), (5, 1, false), (6, 1, false), (7, 1, false)], 8, 64, [.int .i64 0, .int .i64 0, .int .i64 0, .int .i64 0, .int .i64 0, .int .i64 0, .int .i64 0, .bool false], true, false⟩),
 (145, ⟨.st [(0, 1, false), (1, 1, false), (2, 1, false), (3, 1, false), (4, 1, false), (5, 1, false), (6, 1, false), (7, 1, false)], 8, 64, [.int .i64 0, .int .i64 0, .int .i64 0, .int .i64 0, .int .i64 0, .int .i64 0, .int .i64 0, .bool false], true, false⟩),
 (146, ⟨.fn, 1, 8, [.nilFunc], false, false⟩),
 (147, ⟨.map 3 31, 1, 8, [.map none], false, false⟩),
 (148, ⟨.st [(0, 2, true), (2, 1, false), (3, 1, false), (4, 1, false), (5, 1, false)], 6, 112, [.slice none 0 0, .map none, .slice none 0 0, .slice none 0 0, .slice none 0 0, .map none], true, false⟩),
 (149, ⟨.st [(0, 2, true), (2, 1, false), (3, 1, false), (4, 1, false), (5, 1, false)], 6, 112, [.slice none 0 0, .map none, .slice none 0 0, .slice none 0 0, .slice none 0 0, .map none], true, false⟩),
 (150, ⟨.fn, 1, 8, [.nilFunc], false, false⟩),
 (151, ⟨.fn, 1, 8, [.nilFunc], false, false⟩),
 (152, ⟨.fn, 1, 8, [.nilFunc], false, false⟩),
 (153, ⟨.fn, 1, 8, [.nilFunc], false, false⟩),
 (154, ⟨.fn, 1, 8, [.nilFunc], false, false⟩),
 (155, ⟨.map 3 4, 1, 8, [.map none], false, false⟩),
 (156, ⟨.st [(0, 1, false), (1, 1, false), (2, 1, false), (3, 1, false), (4, 1, false)], 5, 40, List.replicate 5 (.int .i64 0), true, false⟩),
 (157, ⟨.st [(0, 1, false), (1, 1, false), (2, 1, false), (3, 1, false), (4, 1, false)], 5, 40, List.replicate 5 (.int .i64 0), true, false⟩),
 (158, ⟨.map 160 105, 1, 8, [.map none], false, false⟩),
 (159, ⟨.st [(0, 1, false), (1, 1, false)], 2, 16, [.int .i64 0, .int .i64 0], true, false⟩),
 (160, ⟨.st [(0, 1, false), (1, 1, false)], 2, 16, [.int .i64 0, .int .i64 0], true, false⟩),
 (162, ⟨.fn, 1, 8, [.nilFunc], false, false⟩),
 (164, ⟨.fn, 1, 8, [.nilFunc], false, false⟩),
 (165, ⟨.fn, 1, 8, [.nilFunc], false, false⟩),
 (166, ⟨.fn, 1, 8, [.nilFunc], false, false⟩),
 (167, ⟨.fn, 1, 8, [.nilFunc], false, false⟩),
 (168, ⟨.fn, 1, 8, [.nilFunc], false, false⟩),
 (169, ⟨.fn, 1, 8, [.nilFunc], false, false⟩),
 (170, ⟨.fn, 1, 8, [.nilFunc], false, false⟩),
 (171, ⟨.fn, 1, 8, [.nilFunc], false, false⟩),
 (172, ⟨.slc 1 false 173, 1, 24, [.slice none 0 0], false, false⟩),
 (173, ⟨.slc 2 true 206, 1, 24, [.slice none 0 0], false, false⟩),
 (175, ⟨.fn, 1, 8, [.nilFunc], false, false⟩),
 (176, ⟨.fn, 1, 8, [.nilFunc], false, false⟩),
 (178, ⟨.fn, 1, 8, [.nilFunc], false, false⟩),
 (180, ⟨.fn, 1, 8, [.nilFunc], false, false⟩),
 (181, ⟨.fn, 1, 8, [.nilFunc], false, false⟩),
 (182, ⟨.fn, 1, 8, [.nilFunc], false, false⟩),
 (183, ⟨.int .i64, 1, 8, [.int .i64 0], false, false⟩),
 (185, ⟨.fn, 1, 8, [.nilFunc], false, false⟩),
 (186, ⟨.fn, 1, 8, [.nilFunc], false, false⟩),
 (187, ⟨.fn, 1, 8, [.nilFunc], false, false⟩),
 (188, ⟨.fn, 1, 8, [.nilFunc], false, false⟩),
 (190, ⟨.fn, 1, 8, [.nilFunc], false, false⟩),
 (191, ⟨.fn, 1, 8, [.nilFunc], false, false⟩),
 (192, ⟨.int .u32, 1, 4, [.int .u32 0], false, false⟩),
 (193, ⟨.fn, 1, 8, [.nilFunc], false, false⟩),
 (194, ⟨.int .u64, 1, 8, [.int .u64 0], false, false⟩),
 (195, ⟨.fn, 1, 8, [.nilFunc], false, false⟩),
 (196, ⟨.fn, 1, 8, [.nilFunc], false, false⟩),
 (197, ⟨.fn, 1, 8, [.nilFunc], false, false⟩),
 (198, ⟨.fn, 1, 8, [.nilFunc], false, false⟩),
 (200, ⟨.fn, 1, 8, [.nilFunc], false, false⟩),
 (202, ⟨.fn, 1, 8, [.nilFunc], false, false⟩),
 (203, ⟨.fn, 1, 8, [.nilFunc], false, false⟩),
 (204, ⟨.fn, 1, 8, [.nilFunc], false, false⟩),
 (205, ⟨.st [(0, 1, false), (1, 1, false)], 2, 16, [.int .i64 0, .int .i64 0], true, false⟩),
 (206, ⟨.st [(0, 1, false), (1, 1, false)], 2, 16, [.int .i64 0, .int .i64 0], true, false⟩),
 (207, ⟨.fn, 1, 8, [.nilFunc], false, false⟩),
 (208, ⟨.fn, 1, 8, [.nilFunc], false, false⟩),
 (209, ⟨.fn, 1, 8, [.nilFunc], false, false⟩),
 (210, ⟨.map 240 131, 1, 8, [.map none], false, false⟩),
 (211, ⟨.fn, 1, 8, [.nilFunc], false, false⟩),
 (212, ⟨.fn, 1, 8, [.nilFunc], false, false⟩),
 (213, ⟨.st [(0, 1, false), (1, 1, false), (2, 1, false)], 3, 56, [.int .i64 0, .slice none 0 0, .slice none 0 0], true, false⟩),
 (214, ⟨.st [(0, 1, false), (1, 1, false), (2, 1, false)], 3, 56, [.int .i64 0, .slice none 0 0, .slice none 0 0], true, false⟩),
 (215, ⟨.fn, 1, 8, [.nilFunc], false, false⟩),
 (216, ⟨.fn, 1, 8, [.nilFunc], false, false⟩),
 (217, ⟨.fn, 1, 8, [.nilFunc], false, false⟩),
 (218, ⟨.fn, 1, 8, [.nilFunc], false, false⟩),
 (219, ⟨.fn, 1, 8, [.nilFunc], false, false⟩),
 (220, ⟨.fn, 1, 8, [.nilFunc], false, false⟩),
 (221, ⟨.fn, 1, 8, [.nilFunc], false, false⟩),
 (222, ⟨.fn, 1, 8, [.nilFunc], false, false⟩),
 (223, ⟨.fn, 1, 8, [.nilFunc], false, false⟩),
 (224, ⟨.fn, 1, 8, [.nilFunc], false, false⟩),
 (225, ⟨.st [(0, 5, true), (5, 1, false)], 6, 72, [.int .i64 0, .int .i64 0, .int .i64 0, .string ⟨#[]⟩, .slice none 0 0, .int .i64 0], true, false⟩),
 (226, ⟨.st [(0, 5, true), (5, 1, false)], 6, 72, [.int .i64 0, .int .i64 0, .int .i64 0, .string ⟨#[]⟩, .slice none 0 0, .int .i64 0], true, false⟩),
 (227, ⟨.fn, 1, 8, [.nilFunc], false, false⟩),
 (228, ⟨.fn, 1, 8, [.nilFunc], false, false⟩),
 (229, ⟨.int .u64, 1, 8, [.int .u64 0], false, false⟩),
 (230, ⟨.fn, 1, 8, [.nilFunc], false, false⟩),
 (231, ⟨.fn, 1, 8, [.nilFunc], false, false⟩),
 (232, ⟨.fn, 1, 8, [.nilFunc], false, false⟩),
 (233, ⟨.ptr, 1, 8, [.pointer none], false, false⟩),
 (234, ⟨.fn, 1, 8, [.nilFunc], false, false⟩),
 (235, ⟨.fn, 1, 8, [.nilFunc], false, false⟩),
 (236, ⟨.fn, 1, 8, [.nilFunc], false, false⟩),
 (237, ⟨.fn, 1, 8, [.nilFunc], false, false⟩),
 (239, ⟨.st [(0, 1, false), (1, 1, false)], 2, 16, [.int .i64 0, .int .i64 0], true, false⟩),
 (240, ⟨.st [(0, 1, false), (1, 1, false)], 2, 16, [.int .i64 0, .int .i64 0], true, false⟩),
 (241, ⟨.st [(0, 1, false), (1, 1, false), (2, 1, false), (3, 1, false), (4, 1, false)], 5, 40, List.replicate 5 (.int .i64 0), true, false⟩),
 (242, ⟨.st [(0, 1, false), (1, 1, false), (2, 1, false), (3, 1, false), (4, 1, false)], 5, 40, List.replicate 5 (.int .i64 0), true, false⟩),
 (243, ⟨.fn, 1, 8, [.nilFunc], false, false⟩),
 (244, ⟨.fn, 1, 8, [.nilFunc], false, false⟩),
 (245, ⟨.fn, 1, 8, [.nilFunc], false, false⟩),
 (246, ⟨.fn, 1, 8, [.nilFunc], false, false⟩),
 (247, ⟨.fn, 1, 8, [.nilFunc], false, false⟩),
 (248, ⟨.fn, 1, 8, [.nilFunc], false, false⟩),
 (249, ⟨.fn, 1, 8, [.nilFunc], false, false⟩),
 (250, ⟨.fn, 1, 8, [.nilFunc], false, false⟩),
 (251, ⟨.fn, 1, 8, [.nilFunc], false, false⟩),
 (252, ⟨.slc 2 true 240, 1, 24, [.slice none 0 0], false, false⟩),
 (253, ⟨.fn, 1, 8, [.nilFunc], false, false⟩),
 (254, ⟨.fn, 1, 8, [.nilFunc], false, false⟩),
 (255, ⟨.fn, 1, 8, [.nilFunc], false, false⟩),
 (256, ⟨.fn, 1, 8, [.nilFunc], false, false⟩),
 (257, ⟨.fn, 1, 8, [.nilFunc], false, false⟩),
 (258, ⟨.fn, 1, 8, [.nilFunc], false, false⟩),
 (259, ⟨.fn, 1, 8, [.nilFunc], false, false⟩),
 (260, ⟨.fn, 1, 8, [.nilFunc], false, false⟩),
 (261, ⟨.arr 5 1 false 260, 5, 40, List.replicate 5 (.nilFunc), true, false⟩),
 (263, ⟨.st [(0, 1, false)], 1, 8, [.int .i64 0], true, false⟩),
 (264, ⟨.st [(0, 1, false)], 1, 8, [.int .i64 0], true, false⟩),
 (266, ⟨.fn, 1, 8, [.nilFunc], false, false⟩),
 (267, ⟨.fn, 1, 8, [.nilFunc], false, false⟩),
 (268, ⟨.fn, 1, 8, [.nilFunc], false, false⟩),
 (269, ⟨.fn, 1, 8, [.nilFunc], false, false⟩),
 (270, ⟨.fn, 1, 8, [.nilFunc], false, false⟩),
 (271, ⟨.arr 5 1 false 215, 5, 40, List.replicate 5 (.nilFunc), true, false⟩),
 (272, ⟨.fn, 1, 8, [.nilFunc], false, false⟩),
 (273, ⟨.ptr, 1, 8, [.pointer none], false, false⟩),
 (274, ⟨.fn, 1, 8, [.nilFunc], false, false⟩),
 (275, ⟨.fn, 1, 8, [.nilFunc], false, false⟩),
 (276, ⟨.fn, 1, 8, [.nilFunc], false, false⟩),
 (277, ⟨.fn, 1, 8, [.nilFunc], false, false⟩),
 (278, ⟨.map 282 145, 1, 8, [.map none], false, false⟩),
 (279, ⟨.fn, 1, 8, [.nilFunc], false, false⟩),
 (281, ⟨.st [(0, 1, false), (1, 1, false), (2, 1, false), (3, 1, false)], 4, 32, List.replicate 4 (.int .i64 0), true, false⟩),
 (282, ⟨.st [(0, 1, false), (1, 1, false), (2, 1, false), (3, 1, false)], 4, 32, List.replicate 4 (.int .i64 0), true, false⟩),
 (283, ⟨.fn, 1, 8, [.nilFunc], false, false⟩),
 (284, ⟨.fn, 1, 8, [.nilFunc], false, false⟩),
 (285, ⟨.map 287 134, 1, 8, [.map none], false, false⟩),
 (286, ⟨.st [(0, 1, false), (1, 1, false), (2, 1, false), (3, 1, false)], 4, 32, List.replicate 4 (.int .i64 0), true, false⟩),
 (287, ⟨.st [(0, 1, false), (1, 1, false), (2, 1, false), (3, 1, false)], 4, 32, List.replicate 4 (.int .i64 0), true, false⟩),
 (289, ⟨.fn, 1, 8, [.nilFunc], false, false⟩),
 (290, ⟨.map 3 24, 1, 8, [.map none], false, false⟩),
 (291, ⟨.other, 1, 8, [.chan none], false, false⟩),
 (292, ⟨.st [(0, 1, false), (1, 1, false)], 2, 32, [.slice none 0 0, .int .i64 0], true, false⟩),
 (293, ⟨.st [(0, 1, false), (1, 1, false)], 2, 32, [.slice none 0 0, .int .i64 0], true, false⟩),
 (294, ⟨.fn, 1, 8, [.nilFunc], false, false⟩),
 (295, ⟨.fn, 1, 8, [.nilFunc], false, false⟩),
 (296, ⟨.fn, 1, 8, [.nilFunc], false, false⟩),
 (297, ⟨.fn, 1, 8, [.nilFunc], false, false⟩),
 (298, ⟨.fn, 1, 8, [.nilFunc], false, false⟩),
 (299, ⟨.fn, 1, 8, [.nilFunc], false, false⟩),
 (300, ⟨.fn, 1, 8, [.nilFunc], false, false⟩),
 (301, ⟨.fn, 1, 8, [.nilFunc], false, false⟩),
 (303, ⟨.fn, 1, 8, [.nilFunc], false, false⟩),
 (304, ⟨.fn, 1, 8, [.nilFunc], false, false⟩),
 (305, ⟨.map 307 137, 1, 8, [.map none], false, false⟩),
 (306, ⟨.st [(0, 1, false), (1, 1, false), (2, 1, false)], 3, 24, [.int .i64 0, .int .i64 0, .bool false], true, false⟩),
 (307, ⟨.st [(0, 1, false), (1, 1, false), (2, 1, false)], 3, 24, [.int .i64 0, .int .i64 0, .bool false], true, false⟩),
 (309, ⟨.fn, 1, 8, [.nilFunc], false, false⟩),
 (310, ⟨.fn, 1, 8, [.nilFunc], false, false⟩),
 (311, ⟨.fn, 1, 8, [.nilFunc], false, false⟩),
 (312, ⟨.fn, 1, 8, [.nilFunc], false, false⟩),
 (313, ⟨.fn, 1, 8, [.nilFunc], false, false⟩),
 (314, ⟨.fn, 1, 8, [.nilFunc], false, false⟩),
 (315, ⟨.fn, 1, 8, [.nilFunc], false, false⟩),
 (316, ⟨.fn, 1, 8, [.nilFunc], false, false⟩),
 (317, ⟨.fn, 1, 8, [.nilFunc], false, false⟩),
 (318, ⟨.fn, 1, 8, [.nilFunc], false, false⟩),
 (319, ⟨.fn, 1, 8, [.nilFunc], false, false⟩),
 (320, ⟨.fn, 1, 8, [.nilFunc], false, false⟩),
 (321, ⟨.fn, 1, 8, [.nilFunc], false, false⟩),
 (322, ⟨.st [(0, 1, false), (1, 1, false), (2, 1, false), (3, 1, false)], 4, 40, [.pointer none, .pointer none, .pointer none, .string ⟨#[]⟩], true, false⟩),
 (323, ⟨.st [(0, 1, false), (1, 1, false), (2, 1, false), (3, 1, false)], 4, 40, [.pointer none, .pointer none, .pointer none, .string ⟨#[]⟩], true, false⟩),
 (324, ⟨.arr 0 1 false 16, 0, 0, [], true, false⟩),
 (325, ⟨.other, 0, 0, [], true, false⟩),
 (326, ⟨.other, 0, 0, [], true, false⟩),
 (327, ⟨.fn, 1, 8, [.nilFunc], false, false⟩),
 (328, ⟨.int .u8, 1, 1, [.int .u8 0], false, true⟩),
 (329, ⟨.int .u8, 1, 1, [.int .u8 0], false, true⟩),
 (330, ⟨.fn, 1, 8, [.nilFunc], false, false⟩),
 (331, ⟨.ptr, 1, 8, [.pointer none], false, false⟩),
 (332, ⟨.int .i32, 1, 4, [.int .i32 0], false, false⟩),
 (333, ⟨.int .i32, 1, 4, [.int .i32 0], false, false⟩),
 (334, ⟨.st [(0, 1, false), (1, 1, false), (2, 1, false), (3, 1, false), (4, 1, false), (5, 1, false), (6, 1, false), (7, 1, false), (8, 1, false), (9, 1, false), (10, 1, false)], 11, 48, [.int .u64 0, .int .u64 0, .int .u32 0, .int .u8 0, .int .u8 0, .int .u8 0, .int .u8 0, .nilFunc, .pointer none, .int .i32 0, .int .i32 0], true, false⟩),
 (335, ⟨.st [(0, 1, false), (1, 1, false), (2, 1, false), (3, 1, false), (4, 1, false), (5, 1, false), (6, 1, false), (7, 1, false), (8, 1, false), (9, 1, false), (10, 1, false)], 11, 48, [.int .u64 0, .int .u64 0, .int .u32 0, .int .u8 0, .int .u8 0, .int .u8 0, .int .u8 0, .nilFunc, .pointer none, .int .i32 0, .int .i32 0], true, false⟩)]
set_option maxRecDepth 100000 in
theorem Tryz.tOk : Tab.Ok Tryz.prog Tryz.T := Tab.ok_of (ts := [1, 2, 3, 4, 5, 6, 7, 8, 9, 10, 11, 12, 13, 14, 15, 16, 17, 18, 19, 20, 21, 22, 23, 24, 25, 26, 27, 28, 29, 30, 31, 32, 33, 34, 35, 37, 38, 39, 40, 41, 42, 44, 46, 47, 48, 50, 51, 52, 53, 54, 55, 57, 58, 59, 60, 61, 62, 63, 64, 65, 66, 67, 68, 69, 70, 71, 72, 73, 74, 75, 76, 77, 78, 79, 80, 81, 82, 83, 84, 85, 86, 87, 88, 89, 90, 91, 92, 93, 94, 95, 96, 97, 98, 100, 101, 102, 103, 104, 105, 106, 107, 108, 109, 110, 111, 112, 113, 114, 115, 116, 118, 119, 120, 121, 122, 123, 124, 125, 126, 127, 128, 129, 130, 131, 132, 133, 134, 135, 136, 137, 138, 139, 140, 141, 142, 143, 144, 145, 146, 147, 148, 149, 150, 151, 152, 153, 154, 155, 156, 157, 158, 159, 160, 162, 164, 165, 166, 167, 168, 169, 170, 171, 172, 173, 175, 176, 178, 180, 181, 182, 183, 185, 186, 187, 188, 190, 191, 192, 193, 194, 195, 196, 197, 198, 200, 202, 203, 204, 205, 206, 207, 208, 209, 210, 211, 212, 213, 214, 215, 216, 217, 218, 219, 220, 221, 222, 223, 224, 225, 226, 227, 228, 229, 230, 231, 232, 233, 234, 235, 236, 237, 239, 240, 241, 242, 243, 244, 245, 246, 247, 248, 249, 250, 251, 252, 253, 254, 255, 256, 257, 258, 259, 260, 261, 263, 264, 266, 267, 268, 269, 270, 271, 272, 273, 274, 275, 276, 277, 278, 279, 281, 282, 283, 284, 285, 286, 287, 289, 290, 291, 292, 293, 294, 295, 296, 297, 298, 299, 300, 301, 303, 304, 305, 306, 307, 309, 310, 311, 312, 313, 314, 315, 316, 317, 318, 319, 320, 321, 322, 323, 324, 325, 326, 327, 328, 329, 330, 331, 332, 333, 334, 335]) (by kernel_rfl)
end Go.Proofs
end
section
set_option maxRecDepth 4000
namespace Go.Sg
open Go.Rn Go.Proofs
theorem mix : Tryz.prog.follows .mixedOrders = true := by kernel_rfl
end Go.Sg
end
section
set_option maxRecDepth 4000
namespace Go.Rn
open Go.RowKit

variable {P : Program} {w : World} {env : Env} {dst : Option Tmp} {ty : TypeId} {pos : String} {after : Array Edge} {guard : Option (Nat × Bool)}

theorem IsSl.inv {sz n : Nat} {v : Value} {cs : List Value} (h : IsSl w sz v n cs) : (∃ d, v = .slice d 0 0 ∧ n = 0 ∧ cs = []) ∨
  ∃ b o cap, v = .slice (some ⟨b, o, none⟩) n cap ∧ Row w b o cs ∧ cs.length = n * sz ∧ n ≤ cap := by
 cases h with
 | nil => exact .inl ⟨_, rfl, rfl, rfl⟩
 | row hr hl hc => exact .inr ⟨_, _, _, rfl, hr, hl, hc⟩
theorem IsSl.held {sz n : Nat} {v : Value} {cs : List Value} (h : IsSl w sz v n cs) (hn : 0 < n) : ∃ b o cap, v = .slice (some ⟨b, o, none⟩) n cap ∧ Row w b o cs ∧ cs.length = n * sz ∧ n ≤ cap := by
 rcases h.inv with ⟨_, -, h, -⟩ | h
 ·omega
 ·exact h
theorem IsSl.ext {S : Nat → Prop} {sz n : Nat} {v : Value} {cs : List Value} {w' : World} (h : IsSl w sz v n cs) (e : ExtB S w w') (hs : ∀ k, v.ownBlock = some k → ¬ S k) : IsSl w' sz v n cs := by
 rcases h.inv with ⟨d0, rfl, rfl, rfl⟩ | ⟨b, o, cap, rfl, hr, hl, hc⟩
 ·exact .nil
 ·exact .row (hr.ext e (hs b rfl)) hl hc
theorem IsSl.extE {sz n : Nat} {v : Value} {cs : List Value} {w' : World} (h : IsSl w sz v n cs) (e : Ext w w') : IsSl w' sz v n cs := h.ext e fun _ _ h => h
theorem IsSl.lt {sz n : Nat} {v : Value} {cs : List Value} (h : IsSl w sz v n cs) (hn : 0 < n) (hz : 0 < sz) {k : Nat} (hk : v.ownBlock = some k) : k < w.heap.size := by
 obtain ⟨b, o, cap, rfl, hr, hl, hc⟩ := h.held hn
 have : k = b := by simpa [Value.ownBlock] using hk.symm
 subst this
 have hlen : 0 < cs.length := by rw [hl]; exact Nat.mul_pos hn hz
 exact cell_lt (hr 0 cs[0] (by simp [hlen]))
theorem isSl_own {base : Nat} {e : TypeId} {sz n : Nat} {v : Value} {xs : List Value} (h : w.ownsRow base e sz v n xs) : IsSl w sz v n xs := by
 obtain ⟨hl, ⟨rfl, rfl⟩ | ⟨g, cap, cur, rfl, hb, hg, hn, hc, hs, ht⟩⟩ := h
 ·obtain rfl : xs = [] := List.eq_nil_of_length_eq_zero (by simpa using hl)
  exact .nil
 ·refine .row (fun i u hu => ?_) hl hn
  have hb : Blk w g cur.toList e := by unfold Blk; rw [hg]
  rw [Nat.zero_add]
  refine hb.cell ?_
  rw [← ht, List.getElem?_take] at hu
  split at hu
  ·exact hu
  ·simp at hu
theorem isSl_blk {b o n cap sz : Nat} {t : TypeId} {cs ds : List Value} (h : Blk w b cs t) (hd : ∀ i v, ds[i]? = some v → cs[o + i]? = some v) (hl : ds.length = n * sz) (hc : n ≤ cap) :
  IsSl w sz (.slice (some ⟨b, o, none⟩) n cap) n ds := .row (h.rowAt o hd) hl hc

theorem ownsRow_ext {S : Nat → Prop} {base : Nat} {e : TypeId} {sz n : Nat} {v : Value} {xs : List Value} {w' : World} (h : w.ownsRow base e sz v n xs) (x : ExtB S w w') (hs : ∀ k, v.ownBlock = some k → ¬ S k) :
  w'.ownsRow base e sz v n xs := by
 obtain ⟨hl, ⟨rfl, rfl⟩ | ⟨g, cap, cur, rfl, hb, hg, hr⟩⟩ := h
 ·exact ⟨hl, .inl ⟨rfl, rfl⟩⟩
 ·exact ⟨hl, .inr ⟨g, cap, cur, rfl, hb, by rw [x.block g (lt_of_get hg) (hs g rfl)]; exact hg, hr⟩⟩
theorem ownsRow_base {base base' : Nat} {e : TypeId} {sz n : Nat} {v : Value} {xs : List Value} (h : w.ownsRow base e sz v n xs) (hb : base' ≤ base) : w.ownsRow base' e sz v n xs := by
 obtain ⟨hl, h | ⟨g, cap, cur, h1, h2, hr⟩⟩ := h
 ·exact ⟨hl, .inl h⟩
 ·exact ⟨hl, .inr ⟨g, cap, cur, h1, by omega, hr⟩⟩
theorem ownsRow_ge {base : Nat} {e : TypeId} {sz n : Nat} {v : Value} {xs : List Value} (h : w.ownsRow base e sz v n xs) {k : Nat} (hk : v.ownBlock = some k) : base ≤ k := by
 obtain ⟨hl, ⟨rfl, rfl⟩ | ⟨g, cap, cur, rfl, hb, hr⟩⟩ := h
 ·simp [Value.ownBlock] at hk
 ·simp [Value.ownBlock] at hk; omega
theorem OpV.lenV {T : Tab} (hT : T.Ok P) {t e : TypeId} {sz : Nat} {ag : Bool} {s bb : Nat} {z : List Value} {a u : Bool} {x : Operand} {v : Value} {d : Option Addr} {n cap : Nat}
  (ht : T.get t = some ⟨.slc sz ag e, s, bb, z, a, u⟩) (hx : evO env x = some v) (hv : v = .slice d n cap) :
  OpV P env w ⟨dst, .call ⟨.builtin .len, #[x], #[t]⟩, ty, pos, after, guard⟩ (.int .i64 (n : Int)) := .of_run fun ρ hρ => by
 subst hv
 refine ⟨Builtin.len_ #[t] ty #[.slice d n cap], by simp only [execOp, resolve, List.map_toArray, List.map_cons, List.map_nil, hρ _ _ hx]; rfl, ?_⟩
 have hu := (TD.of_slc (TI.tdof (hT.get _ _ ht)).symm).1
 simp [Builtin.len_, bind, Sem.bind, Sem.run, goInt, pure, underlying, program, hu]
theorem OpV.lenSl {w' : World} {T : Tab} (hT : T.Ok P) {t e : TypeId} {sz : Nat} {ag : Bool} {s bb : Nat} {z : List Value} {a u : Bool} {x : Operand} {v : Value} {n : Nat} {cs : List Value} {sz' : Nat}
  (ht : T.get t = some ⟨.slc sz ag e, s, bb, z, a, u⟩) (hx : evO env x = some v) (hv : IsSl w' sz' v n cs) :
  OpV P env w ⟨dst, .call ⟨.builtin .len, #[x], #[t]⟩, ty, pos, after, guard⟩ (.int .i64 (n : Int)) := by
 rcases hv.inv with ⟨d0, rfl, rfl, rfl⟩ | ⟨b, o, cap, rfl, -⟩
 ·exact OpV.lenV (cap := 0) hT ht hx rfl
 ·exact OpV.lenV hT ht hx rfl
end Go.Rn
namespace Go.Rn
variable {P : Program} {w : World} {env : Env} {dst : Option Tmp} {ty : TypeId} {pos : String} {after : Array Edge} {guard : Option (Nat × Bool)}
theorem OpV.sliceSq {T : Tab} (hT : T.Ok P) {t e : TypeId} {sz : Nat} {ag : Bool} {s bb : Nat} {z : List Value} {a u : Bool} {x : Operand} {low high : Option Operand} {b o n c lo hi q len cap : Nat}
  (ht : T.get t = some ⟨.slc sz ag e, s, bb, z, a, u⟩) (hx : evO env x = some (.slice (some ⟨b, o, none⟩) n c)) (hl : Bnd env low 0 lo) (hh : Bnd env high n hi) (h1 : lo ≤ hi) (h2 : hi ≤ c)
  (hq : offOf o lo c sz = q) (hlen : hi - lo = len) (hcap : c - lo = cap) :
  OpV P env w ⟨dst, .slice t x low high none, ty, pos, after, guard⟩ (.slice (some ⟨b, q, none⟩) len cap) := by
 subst hq; subst hlen; subst hcap
 exact OpV.sliceS hT ht hx hl hh (.none (n := c)) (.inl rfl) h1 h2 (Nat.le_refl _)

end Go.Rn
namespace Go.Rn
theorem Rets.v {P : Program} {g : FuncId} {fi args all : List Value} {w : World} {R : Value → World → Prop} (h : Rets P g all w R) (e : fi ++ args = all) :
  FnV P (.func (.func g) fi.toArray [].toArray) args w R fun _ _ => False := by
 subst e
 exact RetsX.v (fi := fi) (args := args) (ca := []) (by rw [List.append_nil]; exact h)
end Go.Rn
namespace Go.Rn
end Go.Rn
namespace Go.Rn
variable {P : Program} {w : World} {env : Env} {dst : Option Tmp} {ty : TypeId} {pos : String} {after : Array Edge} {guard : Option (Nat × Bool)}
end Go.Rn
namespace Go.Rn
end Go.Rn
namespace Go.Rn
variable {P : Program} {c : Ctx} {k : List Item} {Q : Out → Act → World → Prop} {w : World} {n : Nat} {ds : List Deferred} {env : Env}
variable {ops : Array Oper} {d : Tmp} {ty : TypeId} {pos : String} {after : Array Edge} {guard : Option (Nat × Bool)} {rest : List Oper} {dst : Option Tmp}
theorem setAt_mid (X Y Z V : List Value) (h : V.length = Y.length) : setAt (X ++ Y ++ Z) X.length V = X ++ V ++ Z := by
 induction V generalizing X Y with
 | nil =>
  obtain rfl : Y = [] := List.eq_nil_of_length_eq_zero (by simpa using h.symm)
  rfl
 | cons v r ih =>
  cases Y with
  | nil => simp at h
  | cons y Y' =>
   unfold setAt
   have e : (X ++ y :: Y' ++ Z).set X.length v = (X ++ [v]) ++ Y' ++ Z := by simp
   rw [e]
   have := ih (X ++ [v]) Y' (by simpa using h)
   rw [List.length_append, List.length_singleton] at this
   rw [this]; simp

def enumV : Nat → List Value → List (Nat × Value)
 | _, [] => []
 | i, v :: r => (i, v) :: enumV (i + 1) r
def cellsAll : List Value → List Value
 | [] => []
 | v :: r => v.cells.toList ++ cellsAll r
theorem fill_enum {sz : Nat} : ∀ (vs A R : List Value) (i : Nat), A.length = i * sz → R.length = vs.length * sz → (∀ v ∈ vs, v.cells.toList.length = sz) →
  fillL (fun i => some (i * sz, sz)) (A ++ R) (enumV i vs) = some (A ++ cellsAll vs)
 | [], A, R, i, hA, hR, _ => by
  obtain rfl : R = [] := List.eq_nil_of_length_eq_zero (by simpa using hR)
  rfl
 | v :: r, A, R, i, hA, hR, hv => by
  rw [List.length_cons, Nat.add_mul] at hR
  have hl := hv v (by simp)
  simp only [enumV, fillL]
  have c1 : Nat.beq v.cells.toList.length sz = true := by rw [hl]; exact Nat.beq_refl sz
  have c2 : Nat.ble (i * sz + v.cells.toList.length) (A ++ R).length = true := by rw [Nat.ble_eq, hl, List.length_append, hA, hR]; omega
  rw [c1, c2]
  simp only [Bool.and_self, cond_true]
  have e : A ++ R = A ++ R.take sz ++ R.drop sz := by rw [List.append_assoc, List.take_append_drop]
  have m := setAt_mid A (R.take sz) (R.drop sz) v.cells.toList (by rw [hl, List.length_take]; omega)
  rw [hA] at m
  rw [e, m, fill_enum r (A ++ v.cells.toList) (R.drop sz) (i + 1) (by rw [List.length_append, hA, hl, Nat.add_mul]; omega) (by rw [List.length_drop]; omega) (fun u hu => hv u (by simp [hu])), cellsAll]
  simp

theorem OpE.buildSl {T : Tab} (hT : T.Ok P) {t e : TypeId} {sz : Nat} {ag : Bool} {s b len : Nat} {z : List Value} {a u : Bool} {ie : TI} {parts : Array (Nat × Operand)} (vs : List Value)
  (ht : T.get t = some ⟨.slc sz ag e, s, b, z, a, u⟩) (he : T.get e = some ie) (hz : ie.zero.length = sz) (hlen : Nat.ble (len * sz) 16777216 = true) (hp : evParts env parts.toList = some (enumV 0 vs))
  (hl : vs.length = len) (hv : ∀ v ∈ vs, v.cells.toList.length = sz) :
  OpE P env w ⟨dst, .buildSlice t len parts, ty, pos, after, guard⟩ (fun v w' => ∃ B, v = .slice (some ⟨B, 0, none⟩) len len ∧ Added w w' B (.cells (cellsAll vs).toArray e (0, 0))) fun _ _ => False := by
 have hcs : buildCells ie.zero len sz (enumV 0 vs) = some (cellsAll vs) := by
  unfold buildCells
  have := fill_enum vs [] (zerosL ie.zero len) 0 (by simp) (by rw [zerosL_length, hz, hl]) hv
  rw [List.nil_append, List.nil_append] at this
  rw [this]
  simp only [force_eq]
 refine .of_run (w' := { w with heap := w.heap.push (.cells (cellsAll vs).toArray e) }) (v := .slice (some ⟨w.heap.size, 0, none⟩) len len) ⟨_, rfl, added_push w _⟩ fun ρ hρ => ⟨_, rfl, ?_⟩
 exact run_buildSlice hT ht he hz hlen (by rw [Array.toList_map]; exact evParts_map hρ hp) hcs
end Go.Rn
namespace Go.Rn
theorem isSl_added {w w' : World} {B : Nat} {e : TypeId} {sz n : Nat} {cs : List Value} (h : Added w w' B (.cells cs.toArray e (0, 0))) (hl : cs.length = n * sz) : IsSl w' sz (.slice (some ⟨B, 0, none⟩) n n) n cs :=
 .row (Blk.row (t := e) h.at_) hl (Nat.le_refl _)
end Go.Rn
end
section
set_option maxRecDepth 4000
namespace Go.Rn
open Go.RowKit
section
variable {P : Program} {c : Ctx} {k : List Item} {Q : Out → Act → World → Prop} {w : World} {n : Nat} {ds : List Deferred} {env : Env}
variable {ops : Array Oper} {d : Tmp} {op : Op} {ty : TypeId} {pos : String} {after : Array Edge} {guard : Option (Nat × Bool)} {rest : List Oper}
def RunLN (P : Program) (c : Ctx) (n : Nat) (ds : List Deferred) (ops : Array Oper) (rest : List Oper) (k : List Item) (Q : Out → Act → World → Prop) (env : Env) (w : World) (d : Tmp) (v : Value) : Prop :=
 RunL P c n ds ops rest k Q ((d, v) :: env) w
theorem RunL.ev {T : Tab} (hT : T.Ok P) {v : Value} (hw : wantE ops.toList env ⟨some d, op, ty, pos, after, guard⟩ = some true) (hdst : Nat.blt d n = true) (hv : evalOp T env op = some v)
  (h : RunLN P c n ds ops rest k Q env w d v) : RunL P c n ds ops (⟨some d, op, ty, pos, after, guard⟩ :: rest) k Q env w := .pure hT hw hdst hv h
theorem RunL.evV {v : Value} (hw : wantE ops.toList env ⟨some d, op, ty, pos, after, guard⟩ = some true) (hdst : Nat.blt d n = true) (hd : isDefer op = false) (hv : OpV P env w ⟨some d, op, ty, pos, after, guard⟩ v)
  (h : RunLN P c n ds ops rest k Q env w d v) : RunL P c n ds ops (⟨some d, op, ty, pos, after, guard⟩ :: rest) k Q env w := .val hw hdst hd hv h
theorem RunLN.boolT {m : Bool} (hm : m = true) (h : RunL P c n ds ops rest k Q ((d, .bool true) :: env) w) : RunLN P c n ds ops rest k Q env w d (.bool m) := by subst hm; exact h
theorem RunLN.boolF {m : Bool} (hm : m = false) (h : RunL P c n ds ops rest k Q ((d, .bool false) :: env) w) : RunLN P c n ds ops rest k Q env w d (.bool m) := by subst hm; exact h
theorem RunLN.boolC {m : Bool} (ht : m = true → RunL P c n ds ops rest k Q ((d, .bool true) :: env) w) (hf : m = false → RunL P c n ds ops rest k Q ((d, .bool false) :: env) w) : RunLN P c n ds ops rest k Q env w d (.bool m) := by
 cases m with
 | true => exact ht rfl
 | false => exact hf rfl
theorem RunLN.decT {p : Prop} [Decidable p] (hp : p) (h : RunL P c n ds ops rest k Q ((d, .bool true) :: env) w) : RunLN P c n ds ops rest k Q env w d (.bool (decide p)) := .boolT (decide_eq_true hp) h
theorem RunLN.decF {p : Prop} [Decidable p] (hp : ¬ p) (h : RunL P c n ds ops rest k Q ((d, .bool false) :: env) w) : RunLN P c n ds ops rest k Q env w d (.bool (decide p)) := .boolF (decide_eq_false hp) h
theorem RunLN.eqT {a b : Int} (hp : a = b) (h : RunL P c n ds ops rest k Q ((d, .bool true) :: env) w) : RunLN P c n ds ops rest k Q env w d (.bool (a == b)) := .boolT (beq_iff_eq.2 hp) h
theorem RunLN.eqF {a b : Int} (hp : a ≠ b) (h : RunL P c n ds ops rest k Q ((d, .bool false) :: env) w) : RunLN P c n ds ops rest k Q env w d (.bool (a == b)) := .boolF (beq_eq_false_iff_ne.2 hp) h
theorem RunLN.neT {a b : Int} (hp : a ≠ b) (h : RunL P c n ds ops rest k Q ((d, .bool true) :: env) w) : RunLN P c n ds ops rest k Q env w d (.bool (a != b)) := .boolT (bne_iff_ne.2 hp) h
theorem RunLN.neF {a b : Int} (hp : a = b) (h : RunL P c n ds ops rest k Q ((d, .bool false) :: env) w) : RunLN P c n ds ops rest k Q env w d (.bool (a != b)) := .boolF (bne_eq_false_iff_eq.2 hp) h
theorem RunLN.int {kd : IntKind} {m m' : Int} (hm : m = m') (h : RunL P c n ds ops rest k Q ((d, .int kd m') :: env) w) : RunLN P c n ds ops rest k Q env w d (.int kd m) := by subst hm; exact h
theorem RunLN.any {v : Value} (h : RunL P c n ds ops rest k Q ((d, v) :: env) w) : RunLN P c n ds ops rest k Q env w d v := h
theorem RunL.callN {g : FuncId} {args : Array Operand} {ts : Array TypeId} {vs : List Value} {v : Value}
  (hw : wantE ops.toList env ⟨some d, .call ⟨.value (.func g), args, ts⟩, ty, pos, after, guard⟩ = some true) (hdst : Nat.blt d n = true) (ha : evL env args.toList = some vs)
  (hc : Rets P g vs w fun u w' => u = v ∧ w = w') (h : RunLN P c n ds ops rest k Q env w d v) :
  RunL P c n ds ops (⟨some d, .call ⟨.value (.func g), args, ts⟩, ty, pos, after, guard⟩ :: rest) k Q env w :=
 .call hw hdst ha hc fun _ _ hr => by obtain ⟨rfl, rfl⟩ := hr; exact h
end
section
variable {P : Program} {c : Ctx} {k : List Item} {Q : Out → Act → World → Prop} {w0 : World} {n : Nat} {ds : List Deferred} {env : Env} {S : Nat → Prop} {sats pres : List (Nat × Pred)} {ph : Option (Option Nat × Pred)} {mu : List Bool}
variable {l : List Oper} {d : Tmp} {op : Op} {ty : TypeId} {pos : String} {after : Array Edge} {guard : Option (Nat × Bool)} {rest : List Oper}
def AsyN (P : Program) (c : Ctx) (n : Nat) (ds : List Deferred) (S : Nat → Prop) (w0 : World) (l : List Oper) (k : List Item) (Q : Out → Act → World → Prop) (rest : List Oper) (env : Env) (sats : List (Nat × Pred)) (ph : Option (Option Nat × Pred)) (mu : List Bool) (pres : List (Nat × Pred)) (d : Tmp) (v : Value) : Prop :=
 Asy P c n ds S w0 l k Q rest ⟨(d, v) :: env, sats, ph, false :: mu, pres⟩
theorem Asy.ev {T : Tab} (hT : T.Ok P) {v : Value} (hw : wantE l env ⟨some d, op, ty, pos, after, guard⟩ = some true) (hdst : Nat.blt d n = true) (hv : evalOp T env op = some v)
  (h : AsyN P c n ds S w0 l k Q rest env sats ph mu pres d v) : Asy P c n ds S w0 l k Q (⟨some d, op, ty, pos, after, guard⟩ :: rest) ⟨env, sats, ph, mu, pres⟩ := .pure hT hw hdst hv h
theorem Asy.evV {v : Value} (hw : wantE l env ⟨some d, op, ty, pos, after, guard⟩ = some true) (hdst : Nat.blt d n = true) (hd : isDefer op = false) (hs : isSel op = false)
  (hv : ∀ w', ExtB S w0 w' → OpV P env w' ⟨some d, op, ty, pos, after, guard⟩ v)
  (h : AsyN P c n ds S w0 l k Q rest env sats ph mu pres d v) : Asy P c n ds S w0 l k Q (⟨some d, op, ty, pos, after, guard⟩ :: rest) ⟨env, sats, ph, mu, pres⟩ := .v hw hdst hd hs hv h
theorem AsyN.boolT {m : Bool} (hm : m = true) (h : Asy P c n ds S w0 l k Q rest ⟨(d, .bool true) :: env, sats, ph, false :: mu, pres⟩) : AsyN P c n ds S w0 l k Q rest env sats ph mu pres d (.bool m) := by subst hm; exact h
theorem AsyN.boolF {m : Bool} (hm : m = false) (h : Asy P c n ds S w0 l k Q rest ⟨(d, .bool false) :: env, sats, ph, false :: mu, pres⟩) : AsyN P c n ds S w0 l k Q rest env sats ph mu pres d (.bool m) := by subst hm; exact h
theorem AsyN.decT {p : Prop} [Decidable p] (hp : p) (h : Asy P c n ds S w0 l k Q rest ⟨(d, .bool true) :: env, sats, ph, false :: mu, pres⟩) : AsyN P c n ds S w0 l k Q rest env sats ph mu pres d (.bool (decide p)) := .boolT (decide_eq_true hp) h
theorem AsyN.decF {p : Prop} [Decidable p] (hp : ¬ p) (h : Asy P c n ds S w0 l k Q rest ⟨(d, .bool false) :: env, sats, ph, false :: mu, pres⟩) : AsyN P c n ds S w0 l k Q rest env sats ph mu pres d (.bool (decide p)) := .boolF (decide_eq_false hp) h
theorem AsyN.eqT {a b : Int} (hp : a = b) (h : Asy P c n ds S w0 l k Q rest ⟨(d, .bool true) :: env, sats, ph, false :: mu, pres⟩) : AsyN P c n ds S w0 l k Q rest env sats ph mu pres d (.bool (a == b)) := .boolT (beq_iff_eq.2 hp) h
theorem AsyN.eqF {a b : Int} (hp : a ≠ b) (h : Asy P c n ds S w0 l k Q rest ⟨(d, .bool false) :: env, sats, ph, false :: mu, pres⟩) : AsyN P c n ds S w0 l k Q rest env sats ph mu pres d (.bool (a == b)) := .boolF (beq_eq_false_iff_ne.2 hp) h
theorem AsyN.neT {a b : Int} (hp : a ≠ b) (h : Asy P c n ds S w0 l k Q rest ⟨(d, .bool true) :: env, sats, ph, false :: mu, pres⟩) : AsyN P c n ds S w0 l k Q rest env sats ph mu pres d (.bool (a != b)) := .boolT (bne_iff_ne.2 hp) h
theorem AsyN.neF {a b : Int} (hp : a = b) (h : Asy P c n ds S w0 l k Q rest ⟨(d, .bool false) :: env, sats, ph, false :: mu, pres⟩) : AsyN P c n ds S w0 l k Q rest env sats ph mu pres d (.bool (a != b)) := .boolF (bne_eq_false_iff_eq.2 hp) h
theorem AsyN.int {kd : IntKind} {m m' : Int} (hm : m = m') (h : Asy P c n ds S w0 l k Q rest ⟨(d, .int kd m') :: env, sats, ph, false :: mu, pres⟩) : AsyN P c n ds S w0 l k Q rest env sats ph mu pres d (.int kd m) := by subst hm; exact h
theorem AsyN.any {v : Value} (h : Asy P c n ds S w0 l k Q rest ⟨(d, v) :: env, sats, ph, false :: mu, pres⟩) : AsyN P c n ds S w0 l k Q rest env sats ph mu pres d v := h
theorem Asy.callN {g : FuncId} {args : Array Operand} {ts : Array TypeId} {vs : List Value} {v : Value}
  (hw : wantE l env ⟨some d, .call ⟨.value (.func g), args, ts⟩, ty, pos, after, guard⟩ = some true) (hdst : Nat.blt d n = true) (ha : evL env args.toList = some vs)
  (hc : ∀ w', ExtB S w0 w' → Rets P g vs w' fun u w'' => u = v ∧ Ext w' w'') (h : AsyN P c n ds S w0 l k Q rest env sats ph mu pres d v) :
  Asy P c n ds S w0 l k Q (⟨some d, .call ⟨.value (.func g), args, ts⟩, ty, pos, after, guard⟩ :: rest) ⟨env, sats, ph, mu, pres⟩ :=
 .val hw hdst rfl rfl (fun w' e => OpE.call ha (hc w' e)) h
theorem Asy.end_ (hc : chk l mu.reverse l [] = true) (h : ∀ w', Ext w0 w' → RunL P c n ds l.toArray rest k Q env w') : Asy P c n ds (fun _ => False) w0 l k Q rest ⟨env, [], none, mu, pres⟩ :=
 .tail hc fun w' e => by simpa [satsAll] using h w' e
end
theorem Blk.up {w w' : World} {b : Nat} {cs : List Value} {t : TypeId} (h : Blk w b cs t) (e : Ext w w') : Blk w' b cs t := h.ext e id
theorem Row.up {w w' : World} {b o : Nat} {cs : List Value} (h : Row w b o cs) (e : Ext w w') : Row w' b o cs := h.extE e
theorem IsSl.up {w w' : World} {sz n : Nat} {v : Value} {cs : List Value} (h : IsSl w sz v n cs) (e : Ext w w') : IsSl w' sz v n cs := h.extE e
theorem Added.ge {w w1 w' : World} {B : Nat} {o : Obj} (h : Added w1 w' B o) (x : Ext w w1) : w.heap.size ≤ B := by rw [h.eq]; exact x.size
theorem ExtB.own {w w1 w2 : World} {B : Nat} (x : Ext w w1) (e : ExtB (· = B) w1 w2) (h : w.heap.size ≤ B) : Ext w w2 := x.write e fun i hi hlt => by subst hi; omega
theorem Blk.other {w w' : World} {b B : Nat} {cs : List Value} {t : TypeId} (h : Blk w b cs t) (e : ExtB (· = B) w w') (hn : b ≠ B) : Blk w' b cs t := h.ext e hn
end Go.Rn
namespace Go.Rec
open Go.Rn
structure EncOk {α : Type} (enc : α → List Value) (k : Nat) : Prop where
 len : ∀ x, (enc x).length = k
 plain : ∀ x, (enc x).all plainV = true
 pos : 0 < k
section
variable {α : Type} {enc : α → List Value} {k : Nat}
def flat (enc : α → List Value) (l : List α) : List Value := (l.map enc).flatten
theorem flat_cons (x : α) (l : List α) : flat enc (x :: l) = enc x ++ flat enc l := by simp [flat]
theorem flat_append (a b : List α) : flat enc (a ++ b) = flat enc a ++ flat enc b := by simp [flat]
theorem flat_one (x : α) : flat enc [x] = enc x := by simp [flat]
theorem flat_length (h : EncOk enc k) : ∀ (l : List α), (flat enc l).length = l.length * k
 | [] => by simp [flat]
 | x :: l => by rw [flat_cons, List.length_append, h.len, flat_length h l, List.length_cons, Nat.add_mul]; omega
theorem flat_drop (h : EncOk enc k) : ∀ (l : List α) (i : Nat), (flat enc l).drop (i * k) = flat enc (l.drop i)
 | l, 0 => by simp
 | [], i + 1 => by simp [flat]
 | x :: l, i + 1 => by
  rw [flat_cons, List.drop_succ_cons, ← flat_drop h l i, List.drop_append, h.len, Nat.add_mul, Nat.one_mul, Nat.add_sub_cancel]
  rw [List.drop_eq_nil_of_le (by rw [h.len]; omega)]; rfl
theorem flat_plain (h : EncOk enc k) (l : List α) : (flat enc l).all plainV = true := by
 simp only [flat, List.all_flatten, List.all_map, List.all_eq_true]
 intro x _; exact h.plain x
theorem flat_row (h : EncOk enc k) {w : World} {b o : Nat} {l : List α} (hr : Row w b o (flat enc l)) {i : Nat} {x : α} (hx : l[i]? = some x) : Row w b (o + i * k) (enc x) := by
 refine hr.window (k := i * k) fun j v hv => ?_
 have e := flat_drop h l i
 have hd : l.drop i = x :: l.drop (i + 1) := by
  obtain ⟨hi, e⟩ := List.getElem?_eq_some_iff.1 hx
  rw [List.drop_eq_getElem_cons hi, e]
 rw [hd, flat_cons] at e
 have := congrArg (·[j]?) e
 simp only [List.getElem?_drop] at this
 rw [this, List.getElem?_append_left]
 ·exact hv
 ·rcases Nat.lt_or_ge j (enc x).length with h' | h'
  ·exact h'
  ·rw [List.getElem?_eq_none h'] at hv; simp at hv
abbrev IsL (w : World) (enc : α → List Value) (k : Nat) (v : Value) (l : List α) : Prop := IsSl w k v l.length (flat enc l)
theorem isSl_slice {w : World} {sz n : Nat} {v : Value} {cs : List Value} (h : IsSl w sz v n cs) : ∃ d c, v = .slice d n c := by
 rcases h.inv with ⟨d, rfl, h, -⟩ | ⟨b, o, c, rfl, -⟩
 ·exact ⟨d, 0, by rw [h]⟩
 ·exact ⟨_, c, rfl⟩
theorem isL_ext {S : Nat → Prop} {w w' : World} {v : Value} {l : List α} (h : IsL w enc k v l) (e : ExtB S w w') (hs : l ≠ [] → ∀ j, v.ownBlock = some j → ¬ S j) : IsL w' enc k v l := by
 cases l with
 | cons a l => exact h.ext e (hs (by simp))
 | nil =>
  rcases h.inv with ⟨d, rfl, -, -⟩ | ⟨b, o, c, rfl, hr, hl, hc⟩
  ·exact .nil
  ·exact .row (fun i v hv => by simp [flat] at hv) hl hc
theorem isL_own {w : World} {v : Value} {l : List α} (h : IsL w enc k v l) (hk : 0 < k) (hl : l ≠ []) {j : Nat} (hj : v.ownBlock = some j) : j < w.heap.size := by
 cases l with
 | nil => exact absurd rfl hl
 | cons a l => exact h.lt (by simp) hk hj
theorem isL_held {w : World} {v : Value} {l : List α} (h : IsL w enc k v l) {i : Nat} (hi : i < l.length) : ∃ b o cap, v = .slice (some ⟨b, o, none⟩) l.length cap ∧ Row w b o (flat enc l) ∧ l.length ≤ cap := by
 obtain ⟨b, o, cap, h1, h2, -, h3⟩ := h.held (by omega)
 exact ⟨b, o, cap, h1, h2, h3⟩
end
end Go.Rec
end
section
namespace Go.Best
section
variable {α : Type} (no at_ : α → Int)
def Srt (l : List α) : Prop := l.Pairwise fun a b => no a < no b
def good (rt : α → Bool) : Int → List α → Bool
 | _, [] => true
 | last, x :: r => rt x && decide (last < no x) && good rt (no x) r
def chk (rt : α → Bool) (lim : Nat) (code : Int) (l : List α) : Int := if lim < l.length then 2 else if good no rt (-1) l then 0 else code
variable {no at_}
theorem good_srt {rt : α → Bool} : ∀ {l : List α} {last : Int}, good no rt last l = true → Srt no l ∧ ∀ x ∈ l, last < no x ∧ rt x = true
 | [], last, _ => ⟨List.Pairwise.nil, by simp⟩
 | x :: r, last, h => by
  simp only [good, Bool.and_eq_true, decide_eq_true_eq] at h
  obtain ⟨⟨h1, h2⟩, h3⟩ := h
  obtain ⟨h4, h5⟩ := good_srt h3
  refine ⟨List.pairwise_cons.2 ⟨fun y hy => (h5 y hy).1, h4⟩, fun y hy => ?_⟩
  rcases List.mem_cons.1 hy with rfl | hy
  ·exact ⟨h2, h1⟩
  ·exact ⟨by have := (h5 y hy).1; omega, (h5 y hy).2⟩
theorem chk_ok {rt : α → Bool} {lim : Nat} {code : Int} {l : List α} (hc : code ≠ 0) : chk no rt lim code l = 0 ↔ l.length ≤ lim ∧ good no rt (-1) l = true := by
 unfold chk; split
 ·simp; omega
 ·split
  ·rename_i h; simp [h]; omega
  ·rename_i h; simp [h, hc]
theorem srt_cons {x : α} {l : List α} : Srt no (x :: l) ↔ (∀ y ∈ l, no x < no y) ∧ Srt no l := List.pairwise_cons
theorem srt_ext : ∀ {a b : List α}, Srt no a → Srt no b → (∀ x, x ∈ a ↔ x ∈ b) → a = b
 | [], [], _, _, _ => rfl
 | [], y :: b, _, _, h => by have := (h y).2 List.mem_cons_self; simp at this
 | x :: a, [], _, _, h => by have := (h x).1 List.mem_cons_self; simp at this
 | x :: a, y :: b, ha, hb, h => by
  obtain ⟨a1, a2⟩ := srt_cons.1 ha
  obtain ⟨b1, b2⟩ := srt_cons.1 hb
  have hxy : x = y := by
   rcases List.mem_cons.1 ((h x).1 List.mem_cons_self) with e | e
   ·exact e
   ·rcases List.mem_cons.1 ((h y).2 List.mem_cons_self) with e' | e'
    ·exact e'.symm
    ·have := b1 x e; have := a1 y e'; omega
  subst hxy
  rw [srt_ext a2 b2 fun z => ?_]
  constructor
  ·intro hz
   rcases List.mem_cons.1 ((h z).1 (List.mem_cons_of_mem _ hz)) with e | e
   ·subst e; have := a1 z hz; omega
   ·exact e
  ·intro hz
   rcases List.mem_cons.1 ((h z).2 (List.mem_cons_of_mem _ hz)) with e | e
   ·subst e; have := b1 z hz; omega
   ·exact e
theorem Srt.filter {l : List α} (h : Srt no l) (p : α → Bool) : Srt no (l.filter p) := h.sublist List.filter_sublist
def cmpI (a b : Int) : Int := if a < b then -1 else if b < a then 1 else 0
theorem cmpI_neg {a b : Int} : cmpI a b < 0 ↔ a < b := by unfold cmpI; split <;> (try split) <;> omega
variable (no at_)
def isB (f : List α) (t : Int) : Option α → Prop
 | none => ∀ y ∈ f, t < at_ y
 | some z => z ∈ f ∧ at_ z ≤ t ∧ ∀ y ∈ f, at_ y ≤ t → at_ y < at_ z ∨ (at_ y = at_ z ∧ no y ≤ no z)
def pickS (t : Int) (best : Option α) (x : α) : Option α :=
 if at_ x ≤ t then (match best with
  | none => some x
  | some y => if at_ y ≤ at_ x then some x else some y) else best
def bst (f : List α) (t : Int) : Option α := f.foldl (pickS at_ t) none
variable {no at_}
theorem pick_isB {pre : List α} {t : Int} {b : Option α} {x : α} (hb : isB no at_ pre t b) (hx : ∀ y ∈ pre, no y < no x) : isB no at_ (pre ++ [x]) t (pickS at_ t b x) := by
 unfold pickS
 split
 ·rename_i hle
  cases b with
  | none =>
   refine ⟨by simp, hle, fun y hy hyt => ?_⟩
   rcases List.mem_append.1 hy with hy | hy
   ·have := hb y hy; omega
   ·simp at hy; subst hy; exact .inr ⟨rfl, Int.le_refl _⟩
  | some z =>
   simp only
   split
   ·rename_i hz
    refine ⟨by simp, hle, fun y hy hyt => ?_⟩
    rcases List.mem_append.1 hy with hy | hy
    ·have := hb.2.2 y hy hyt
     have := hx y hy
     rcases Int.lt_or_eq_of_le (show at_ y ≤ at_ x by omega) with h | h
     ·exact .inl h
     ·exact .inr ⟨h, by omega⟩
    ·simp at hy; subst hy; exact .inr ⟨rfl, Int.le_refl _⟩
   ·rename_i hz
    refine ⟨by simp [hb.1], hb.2.1, fun y hy hyt => ?_⟩
    rcases List.mem_append.1 hy with hy | hy
    ·exact hb.2.2 y hy hyt
    ·simp at hy; subst hy; exact .inl (by omega)
 ·rename_i hgt
  cases b with
  | none =>
   intro y hy
   rcases List.mem_append.1 hy with hy | hy
   ·exact hb y hy
   ·simp at hy; subst hy; omega
  | some z =>
   refine ⟨by simp [hb.1], hb.2.1, fun y hy hyt => ?_⟩
   rcases List.mem_append.1 hy with hy | hy
   ·exact hb.2.2 y hy hyt
   ·simp at hy; subst hy; omega
theorem fold_isB {t : Int} : ∀ (post pre : List α) (b : Option α), isB no at_ pre t b → Srt no (pre ++ post) → isB no at_ (pre ++ post) t (post.foldl (pickS at_ t) b)
 | [], pre, b, hb, _ => by simpa using hb
 | x :: post, pre, b, hb, hs => by
  have h1 : Srt no ((pre ++ [x]) ++ post) := by simpa using hs
  have := fold_isB post (pre ++ [x]) _ (pick_isB hb fun y hy => (List.pairwise_append.1 hs).2.2 y hy x List.mem_cons_self) h1
  simpa using this
theorem bst_isB {f : List α} (hs : Srt no f) (t : Int) : isB no at_ f t (bst at_ f t) := by
 have := fold_isB (no := no) (at_ := at_) (t := t) f [] none (by intro y hy; simp at hy) (by simpa using hs)
 exact this
theorem bst_mem {f : List α} {t : Int} {z : α} (hs : Srt no f) (h : bst at_ f t = some z) : z ∈ f ∧ at_ z ≤ t := by
 have := bst_isB (at_ := at_) hs t
 rw [h] at this; exact ⟨this.1, this.2.1⟩
end
end Go.Best
end
