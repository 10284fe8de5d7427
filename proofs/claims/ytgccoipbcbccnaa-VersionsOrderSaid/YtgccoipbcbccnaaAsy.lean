/- Regions whose order is drawn: each operation is shown once, in any world that the others may leave. -/
import Derived.Test.YtgccoipbcbccnaaRun
set_option linter.unusedSimpArgs false
set_option linter.unusedVariables false
set_option linter.unusedSectionVars false
namespace Go.Rn
open Go.RowKit

abbrev Pred := Value → World → Prop

/-- What is known of an operation's value: the value; a law that lasts; a law that lasts till the next writing operation; a law that lasts till the first one. -/
inductive Ent where
  | val (v : Value)
  | sat (V : Pred)
  | wri (V : Pred)
  | pre (V : Pred)
def Ent.isMut : Ent → Bool
  | .wri _ => true
  | _ => false

def Ent.Holds : Ent → Value → World → Prop
  | .val u, v, _ => v = u
  | .sat V, v, w => V v w
  | .wri V, v, w => V v w
  | .pre V, v, w => V v w

structure Know where
  env : Env
  sats : List (Nat × Pred)
  ph : Option (Option Nat × Pred)
  mu : List Bool
  pres : List (Nat × Pred)

def Env.del (env : Env) : Option Nat → Env
  | none => env
  | some d => env.filter fun e => !(Nat.beq e.1 d)

def Know.add (s : Know) (dst : Option Nat) : Ent → Know
  | .val v => { s with env := s.env.put dst v, mu := false :: s.mu }
  | .sat V => { s with env := s.env.del dst, sats := (match dst with | some d => (d, V) :: s.sats | none => s.sats), mu := false :: s.mu }
  | .wri V => { s with env := s.env.del dst, ph := some (dst, V), mu := true :: s.mu }
  | .pre V => { s with env := s.env.del dst, pres := (match dst with | some d => (d, V) :: s.pres | none => s.pres), mu := false :: s.mu }

theorem Env.del_get {env : Env} {d : Option Nat} {t : Nat} {v : Value} (h : (env.del d).get t = some v) : env.get t = some v ∧ d ≠ some t := by
  cases d with
  | none => exact ⟨h, by simp⟩
  | some d =>
    unfold Env.del at h
    simp only at h
    induction env with
    | nil => simp [Env.get] at h
    | cons e r ih =>
      obtain ⟨k, u⟩ := e
      simp only [List.filter_cons] at h
      by_cases hk : k = d
      · subst hk
        simp only [Nat.beq_refl, Bool.not_true, Bool.false_eq_true, if_false] at h
        obtain ⟨h1, h2⟩ := ih h
        refine ⟨?_, h2⟩
        rw [Env.get_cons_ne (by intro e; exact h2 (by rw [e]))]; exact h1
      · have hb : Nat.beq k d = false := by cases hq : Nat.beq k d; rfl; exact absurd (Nat.eq_of_beq_eq_true hq) hk
        simp only [hb, Bool.not_false, if_true] at h
        by_cases hkt : k = t
        · subst hkt
          rw [Env.get_cons_same] at h ⊢
          exact ⟨h, by intro e; exact hk (by injection e with e; exact e.symm)⟩
        · rw [Env.get_cons_ne hkt] at h ⊢
          exact ih h

theorem Env.put_get {env : Env} {d : Option Nat} {t : Nat} {v u : Value} (h : (env.put d u).get t = some v) : (d = some t ∧ v = u) ∨ (d ≠ some t ∧ env.get t = some v) := by
  cases d with
  | none => exact .inr ⟨by simp, h⟩
  | some d =>
    unfold Env.put at h
    by_cases hd : d = t
    · subst hd; simp only [Env.get_cons_same] at h; injection h with h; exact .inl ⟨rfl, h.symm⟩
    · simp only [Env.get_cons_ne hd] at h; exact .inr ⟨by intro e; exact hd (by injection e), h⟩

def isSel : Op → Bool
  | .select .. => true
  | _ => false

/-- What an operation finds. -/
structure Goes (ops : Array Oper) (s : Know) (o : Oper) (w' : World) (ρ : Operand → Value) : Prop where
  ev : ∀ x v, evO s.env x = some v → ρ x = v
  sat : ∀ d V, (d, V) ∈ s.sats → d ∈ o.looksAt ops → V (ρ (.tmp d)) w'

def PhOk (S : Nat → Prop) (w0 : World) (ops : Array Oper) (s : Know) (o : Oper) (w' : World) (ρ : Operand → Value) : Prop :=
  match s.ph with
  | none => Ext w0 w'
  | some (d, U) => ExtB S w0 w' ∧ ∃ x, U x w' ∧ ∀ t, d = some t → t ∈ o.looksAt ops → ρ (.tmp t) = x

def OpOk (P : Program) (n : Nat) (S : Nat → Prop) (w0 : World) (ops : Array Oper) (s : Know) (o : Oper) : Ent → Prop
  | .val v => dstOk n o.dst = true ∧ isSel o.op = false ∧ ((wantE ops.toList s.env o = some false ∧ v = undef) ∨
      (wantE ops.toList s.env o = some true ∧ isDefer o.op = false ∧
        ∀ w' ρ, ExtB S w0 w' → Goes ops s o w' ρ → ExecE P (execOp ρ o) w' (fun u w'' => u = v ∧ Ext w' w'') fun _ _ => False))
  | .sat V => dstOk n o.dst = true ∧ isSel o.op = false ∧ wantE ops.toList s.env o = some true ∧ isDefer o.op = false ∧
      (∀ v w' w'', ExtB S w0 w' → ExtB S w' w'' → V v w' → V v w'') ∧
      ∀ w' ρ, ExtB S w0 w' → Goes ops s o w' ρ → ExecE P (execOp ρ o) w' (fun u w'' => Ext w' w'' ∧ V u w'') fun _ _ => False
  | .wri V => dstOk n o.dst = true ∧ isSel o.op = false ∧ wantE ops.toList s.env o = some true ∧ isDefer o.op = false ∧
      (∀ v w' w'', ExtB S w0 w' → Ext w' w'' → V v w' → V v w'') ∧
      ∀ w' ρ, PhOk S w0 ops s o w' ρ → Goes ops s o w' ρ → (s.ph = none → ∀ d V, (d, V) ∈ s.pres → d ∈ o.looksAt ops → V (ρ (.tmp d)) w') → ExecE P (execOp ρ o) w' (fun u w'' => ExtB S w' w'' ∧ V u w'') fun _ _ => False
  | .pre V => dstOk n o.dst = true ∧ isSel o.op = false ∧ wantE ops.toList s.env o = some true ∧ isDefer o.op = false ∧
      (∀ v w' w'', ExtB S w0 w' → Ext w' w'' → V v w' → V v w'') ∧
      ∀ w' ρ, ExtB S w0 w' → Goes ops s o w' ρ → ExecE P (execOp ρ o) w' (fun u w'' => Ext w' w'' ∧ V u w'') fun _ _ => False

/-! ### The order -/
inductive Ord (ops : List Oper) : Nat → Nat → Prop where
  | edge {j : Nat} {o : Oper} {e : Edge} (ho : ops[j]? = some o) (he : e ∈ o.after) (hb : Region.binds .any e = true) : Ord ops e.on j
  | step {i j : Nat} {o : Oper} {e : Edge} (ho : ops[j]? = some o) (he : e ∈ o.after) (hb : Region.binds .any e = true) (h : Ord ops i e.on) : Ord ops i j

def maskOf (ms : List Nat) (o : Oper) : Nat :=
  o.after.toList.foldl (fun acc e => bif Region.binds .any e then acc ||| (2 ^ e.on ||| ms.getD e.on 0) else acc) 0

theorem maskOf_ord {ops : List Oper} {ms : List Nat} {j : Nat} {o : Oper} (ho : ops[j]? = some o) (hm : ∀ k i, (ms.getD k 0).testBit i = true → Ord ops i k) {i : Nat}
    (h : (maskOf ms o).testBit i = true) : Ord ops i j := by
  have key : ∀ (l : List Edge) (acc : Nat), (∀ e ∈ l, e ∈ o.after) → (∀ i, acc.testBit i = true → Ord ops i j) →
      ∀ i, (l.foldl (fun acc e => bif Region.binds .any e then acc ||| (2 ^ e.on ||| ms.getD e.on 0) else acc) acc).testBit i = true → Ord ops i j := by
    intro l
    induction l with
    | nil => intro acc _ ha i h; exact ha i h
    | cons e r ih =>
      intro acc hl ha i h
      refine ih _ (fun e he => hl e (List.mem_cons_of_mem _ he)) ?_ i h
      intro i hi
      simp only at hi
      cases hb : Region.binds .any e with
      | false => rw [hb] at hi; exact ha i hi
      | true =>
        rw [hb, cond_true, Nat.testBit_or, Nat.testBit_or, Bool.or_eq_true, Bool.or_eq_true] at hi
        rcases hi with hi | hi | hi
        · exact ha i hi
        · rw [Nat.testBit_two_pow, decide_eq_true_eq] at hi
          subst hi
          exact .edge ho (hl e List.mem_cons_self) hb
        · exact .step ho (hl e List.mem_cons_self) hb (hm _ _ hi)
  exact key o.after.toList 0 (fun e he => by simpa using he) (fun i h => by simp at h) i h

def pairOk (ops : List Oper) (mu : List Bool) (i j : Nat) (o : Oper) : Bool :=
  match ops[i]? with
  | some x => x.apart ops.toArray o && !((mu.getD i false) && (mu.getD j false))
  | none => false
def dstNe (ops : List Oper) (i : Nat) (o : Oper) : Bool :=
  match ops[i]?, o.dst with
  | some ⟨some a, _, _, _, _, _⟩, some b => !(Nat.beq a b)
  | _, _ => true

def okAt (ops : List Oper) (mu : List Bool) (ms : List Nat) (o : Oper) : Bool :=
  (o.after.toList.all fun e => !(Region.binds .any e) || Nat.blt e.on ms.length) &&
  (List.range ms.length).all fun i => (bif (maskOf ms o).testBit i then true else Nat.blt ms.length mu.length && pairOk ops mu i ms.length o) &&
    (Nat.ble mu.length ms.length || dstNe ops i o)

def chk (ops : List Oper) (mu : List Bool) : List Oper → List Nat → Bool
  | [], _ => true
  | o :: rest, ms => okAt ops mu ms o && chk ops mu rest (ms ++ [maskOf ms o])

structure Okay (ops : List Oper) (mu : List Bool) : Prop where
  back : ∀ (j : Nat) (o : Oper), ops[j]? = some o → ∀ e ∈ o.after, Region.binds .any e = true → e.on < j
  pair : ∀ (i j : Nat) (x o : Oper), i < j → ops[i]? = some x → ops[j]? = some o → Ord ops i j ∨ (j < mu.length ∧ x.apart ops.toArray o = true ∧ ¬ (mu.getD i false = true ∧ mu.getD j false = true))
  dst : ∀ (i j : Nat) (x o : Oper), i < j → j < mu.length → ops[i]? = some x → ops[j]? = some o → ∀ d, x.dst = some d → o.dst ≠ some d

theorem chk_okay {ops : List Oper} {mu : List Bool} (h : chk ops mu ops [] = true) : Okay ops mu := by
  have key : ∀ (rest : List Oper) (ms : List Nat), ops.drop ms.length = rest → (∀ k i, (ms.getD k 0).testBit i = true → Ord ops i k) → chk ops mu rest ms = true →
      ∀ (j : Nat) (o : Oper), ms.length ≤ j → ops[j]? = some o → ∃ ms', ms'.length = j ∧ (∀ k i, (ms'.getD k 0).testBit i = true → Ord ops i k) ∧ okAt ops mu ms' o = true := by
    intro rest
    induction rest with
    | nil =>
      intro ms hd hm hc j o hj ho
      have := List.drop_eq_nil_iff.1 hd
      rw [List.getElem?_eq_none (by omega)] at ho; simp at ho
    | cons a rest ih =>
      intro ms hd hm hc j o hj ho
      obtain ⟨h1, h2⟩ := drop_cons hd
      simp only [chk, Bool.and_eq_true] at hc
      rcases Nat.lt_or_ge ms.length j with hlt | hge
      · refine ih (ms ++ [maskOf ms a]) (by simpa using h2) ?_ hc.2 j o (by simp; omega) ho
        intro k i hki
        rcases Nat.lt_trichotomy k ms.length with hk | hk | hk
        · refine hm k i ?_
          rw [List.getD_eq_getElem?_getD, List.getElem?_append_left hk, ← List.getD_eq_getElem?_getD] at hki
          exact hki
        · subst hk
          rw [List.getD_eq_getElem?_getD, List.getElem?_append_right (Nat.le_refl _)] at hki
          simp only [Nat.sub_self, List.getElem?_cons_zero, Option.getD_some] at hki
          exact maskOf_ord h1 hm hki
        · rw [List.getD_eq_getElem?_getD, List.getElem?_eq_none (by simp; omega)] at hki
          simp at hki
      · have hj' : j = ms.length := by omega
        subst hj'
        rw [h1] at ho
        injection ho with ho; subst ho
        exact ⟨ms, rfl, hm, hc.1⟩
  have all : ∀ (j : Nat) (o : Oper), ops[j]? = some o → ∃ ms', ms'.length = j ∧ (∀ k i, (ms'.getD k 0).testBit i = true → Ord ops i k) ∧ okAt ops mu ms' o = true :=
    fun j o ho => key ops [] rfl (fun k i h => by simp at h) h j o (by simp) ho
  refine ⟨?_, ?_, ?_⟩
  · intro j o ho e he hb
    obtain ⟨ms, hl, -, hk⟩ := all j o ho
    simp only [okAt, Bool.and_eq_true, List.all_eq_true] at hk
    have := hk.1 e (by simpa using he)
    rw [hb] at this
    simp only [Bool.not_true, Bool.false_or] at this
    rw [Nat.blt_eq] at this
    omega
  · intro i j x o hij hx ho
    obtain ⟨ms, hl, hm, hk⟩ := all j o ho
    simp only [okAt, Bool.and_eq_true, List.all_eq_true] at hk
    have := (hk.2 i (by simp; omega)).1
    cases hb : (maskOf ms o).testBit i with
    | true => exact .inl (maskOf_ord ho hm hb)
    | false =>
      rw [hb] at this
      simp only [cond_false, Bool.and_eq_true, pairOk, hx, hl] at this
      refine .inr ⟨by have := this.1; rwa [Nat.blt_eq] at this, this.2.1, ?_⟩
      rintro ⟨h1, h2⟩
      rw [h1, h2] at this
      simp at this
  · intro i j x o hij hjm hx ho d hxd hod
    obtain ⟨ms, hl, hm, hk⟩ := all j o ho
    simp only [okAt, Bool.and_eq_true, List.all_eq_true] at hk
    have := (hk.2 i (by simp; omega)).2
    have hn : Nat.ble mu.length ms.length = false := by
      cases hq : Nat.ble mu.length ms.length
      · rfl
      · have := Nat.le_of_ble_eq_true hq; omega
    rw [hn, Bool.false_or] at this
    obtain ⟨xd, xo, xt, xp, xa, xg⟩ := x
    simp only at hxd
    subst hxd
    simp [dstNe, hx, hod] at this

/-! ### Its run -/
def stN (l : List Oper) (es : List Ent) (s0 : Know) : Nat → Know
  | 0 => s0
  | i + 1 => match l[i]?, es[i]? with
    | some o, some e => (stN l es s0 i).add o.dst e
    | _, _ => stN l es s0 i

/-- What has to be shown of the operations that are left. -/
def AsyF (P : Program) (n : Nat) (S : Nat → Prop) (w0 : World) (ops : Array Oper) (T : Know → List Oper → Prop) : List Ent → List Oper → Know → Prop
  | [], rest, s => T s rest
  | e :: es, o :: rest, s => OpOk P n S w0 ops s o e ∧ AsyF P n S w0 ops T es rest (s.add o.dst e)
  | _ :: _, [], _ => False

theorem asyF_all {P : Program} {n : Nat} {S : Nat → Prop} {w0 : World} {ops : Array Oper} {T : Know → List Oper → Prop} {l : List Oper} {es : List Ent} {s0 : Know}
    (h : AsyF P n S w0 ops T es l s0) : es.length ≤ l.length ∧ (∀ (i : Nat) o e, l[i]? = some o → es[i]? = some e → OpOk P n S w0 ops (stN l es s0 i) o e) ∧ T (stN l es s0 es.length) (l.drop es.length) := by
  have key : ∀ k, k ≤ es.length → AsyF P n S w0 ops T (es.drop k) (l.drop k) (stN l es s0 k) ∧ k ≤ l.length := by
    intro k
    induction k with
    | zero => intro _; exact ⟨h, Nat.zero_le _⟩
    | succ k ih =>
      intro hk
      obtain ⟨ih, hkl⟩ := ih (by omega)
      have he : es[k]? = some es[k] := List.getElem?_eq_getElem (by omega)
      rw [List.drop_eq_getElem_cons (by omega : k < es.length)] at ih
      rcases Nat.lt_or_ge k l.length with hl | hl
      · rw [List.drop_eq_getElem_cons hl] at ih
        refine ⟨?_, hl⟩
        have := ih.2
        simp only [stN, List.getElem?_eq_getElem hl, he]
        exact this
      · rw [List.drop_eq_nil_iff.2 hl] at ih
        exact ih.elim
  refine ⟨(key _ (Nat.le_refl _)).2, ?_, ?_⟩
  · intro i o e ho he
    have hi : i < es.length := by
      rcases Nat.lt_or_ge i es.length with h | h
      · exact h
      · rw [List.getElem?_eq_none h] at he; simp at he
    have hl : i < l.length := by
      rcases Nat.lt_or_ge i l.length with h | h
      · exact h
      · rw [List.getElem?_eq_none h] at ho; simp at ho
    have := (key i (by omega)).1
    rw [List.drop_eq_getElem_cons hi, List.drop_eq_getElem_cons hl] at this
    rw [List.getElem?_eq_getElem hi] at he
    rw [List.getElem?_eq_getElem hl] at ho
    injection he with he; injection ho with ho
    subst he; subst ho
    exact this.1
  · have := (key es.length (Nat.le_refl _)).1
    rw [List.drop_length] at this
    exact this

section
variable {l : List Oper} {es : List Ent} {env : Env} {mu : List Bool}

def know0 (env : Env) : Know := ⟨env, [], none, [], []⟩

theorem stN_env (hd : ∀ (i j : Nat) x o, i < j → j < es.length → l[i]? = some x → l[j]? = some o → ∀ d, x.dst = some d → o.dst ≠ some d) :
    ∀ i, i ≤ es.length → ∀ t v, (stN l es (know0 env) i).env.get t = some v →
      (∃ (j : Nat) (o : Oper), j < i ∧ l[j]? = some o ∧ o.dst = some t ∧ es[j]? = some (.val v)) ∨ ((∀ (j : Nat) o, j < i → l[j]? = some o → o.dst ≠ some t) ∧ env.get t = some v) := by
  intro i
  induction i with
  | zero => intro _ t v h; exact .inr ⟨fun j o hj => by omega, h⟩
  | succ i ih =>
    intro hi t v h
    simp only [stN] at h
    have he : es[i]? = some es[i] := List.getElem?_eq_getElem (by omega)
    rw [he] at h
    cases ho : l[i]? with
    | none =>
      rw [ho] at h
      simp only at h
      rcases ih (by omega) t v h with ⟨j, o, hj, h1, h2, h3⟩ | ⟨h1, h2⟩
      · exact .inl ⟨j, o, by omega, h1, h2, h3⟩
      · refine .inr ⟨fun j o hj hjo => ?_, h2⟩
        rcases Nat.lt_or_ge j i with hlt | hge
        · exact h1 j o hlt hjo
        · have : j = i := by omega
          subst this; rw [ho] at hjo; simp at hjo
    | some o =>
      rw [ho] at h
      simp only at h
      have carry : o.dst ≠ some t → (stN l es (know0 env) i).env.get t = some v →
          (∃ (j : Nat) (o : Oper), j < i + 1 ∧ l[j]? = some o ∧ o.dst = some t ∧ es[j]? = some (.val v)) ∨ ((∀ (j : Nat) o, j < i + 1 → l[j]? = some o → o.dst ≠ some t) ∧ env.get t = some v) := by
        intro hne h
        rcases ih (by omega) t v h with ⟨j, o, hj, h1, h2, h3⟩ | ⟨h1, h2⟩
        · exact .inl ⟨j, o, by omega, h1, h2, h3⟩
        · refine .inr ⟨fun j o' hj hjo => ?_, h2⟩
          rcases Nat.lt_or_ge j i with hlt | hge
          · exact h1 j o' hlt hjo
          · have : j = i := by omega
            subst this; rw [ho] at hjo; injection hjo with hjo; subst hjo; exact hne
      cases hE : es[i] with
      | val u =>
        rw [hE] at h
        simp only [Know.add] at h
        rcases Env.put_get h with ⟨h1, h2⟩ | ⟨h1, h2⟩
        · subst h2; exact .inl ⟨i, o, by omega, ho, h1, by rw [he, hE]⟩
        · exact carry h1 h2
      | sat V =>
        rw [hE] at h
        simp only [Know.add] at h
        obtain ⟨h1, h2⟩ := Env.del_get h
        exact carry h2 h1
      | wri V =>
        rw [hE] at h
        simp only [Know.add] at h
        obtain ⟨h1, h2⟩ := Env.del_get h
        exact carry h2 h1
      | pre V =>
        rw [hE] at h
        simp only [Know.add] at h
        obtain ⟨h1, h2⟩ := Env.del_get h
        exact carry h2 h1

theorem stN_sats : ∀ i, i ≤ es.length → ∀ d V, (d, V) ∈ (stN l es (know0 env) i).sats → ∃ (j : Nat) (o : Oper), j < i ∧ l[j]? = some o ∧ o.dst = some d ∧ es[j]? = some (.sat V) := by
  intro i
  induction i with
  | zero => intro _ d V h; simp [stN, know0] at h
  | succ i ih =>
    intro hi d V h
    simp only [stN] at h
    have he : es[i]? = some es[i] := List.getElem?_eq_getElem (by omega)
    rw [he] at h
    have up : (d, V) ∈ (stN l es (know0 env) i).sats → ∃ (j : Nat) (o : Oper), j < i + 1 ∧ l[j]? = some o ∧ o.dst = some d ∧ es[j]? = some (.sat V) := fun h =>
      let ⟨j, o, hj, r⟩ := ih (by omega) d V h; ⟨j, o, by omega, r⟩
    cases ho : l[i]? with
    | none => rw [ho] at h; exact up h
    | some o =>
      rw [ho] at h
      simp only at h
      cases hE : es[i] with
      | val u => rw [hE] at h; exact up h
      | sat W =>
        rw [hE] at h
        simp only [Know.add] at h
        cases hdst : o.dst with
        | none => rw [hdst] at h; exact up h
        | some d' =>
          rw [hdst] at h
          rcases List.mem_cons.1 h with h | h
          · injection h with h1 h2; subst h1; subst h2
            exact ⟨i, o, by omega, ho, hdst, by rw [he, hE]⟩
          · exact up h
      | wri W => rw [hE] at h; exact up h
      | pre W => rw [hE] at h; exact up h

theorem stN_pres : ∀ i, i ≤ es.length → ∀ d V, (d, V) ∈ (stN l es (know0 env) i).pres → ∃ (j : Nat) (o : Oper), j < i ∧ l[j]? = some o ∧ o.dst = some d ∧ es[j]? = some (.pre V) := by
  intro i
  induction i with
  | zero => intro _ d V h; simp [stN, know0] at h
  | succ i ih =>
    intro hi d V h
    simp only [stN] at h
    have he : es[i]? = some es[i] := List.getElem?_eq_getElem (by omega)
    rw [he] at h
    have up : (d, V) ∈ (stN l es (know0 env) i).pres → ∃ (j : Nat) (o : Oper), j < i + 1 ∧ l[j]? = some o ∧ o.dst = some d ∧ es[j]? = some (.pre V) := fun h =>
      let ⟨j, o, hj, r⟩ := ih (by omega) d V h; ⟨j, o, by omega, r⟩
    cases ho : l[i]? with
    | none => rw [ho] at h; exact up h
    | some o =>
      rw [ho] at h
      simp only at h
      cases hE : es[i] with
      | val u => rw [hE] at h; exact up h
      | pre W =>
        rw [hE] at h
        simp only [Know.add] at h
        cases hdst : o.dst with
        | none => rw [hdst] at h; exact up h
        | some d' =>
          rw [hdst] at h
          rcases List.mem_cons.1 h with h | h
          · injection h with h1 h2; subst h1; subst h2
            exact ⟨i, o, by omega, ho, hdst, by rw [he, hE]⟩
          · exact up h
      | wri W => rw [hE] at h; exact up h
      | sat W => rw [hE] at h; exact up h

theorem stN_ph : ∀ i, i ≤ es.length → i ≤ l.length → match (stN l es (know0 env) i).ph with
    | none => ∀ j e, j < i → es[j]? = some e → e.isMut = false
    | some (d, U) => ∃ (j : Nat) (o : Oper), j < i ∧ l[j]? = some o ∧ o.dst = d ∧ es[j]? = some (.wri U) ∧ ∀ k e, j < k → k < i → es[k]? = some e → e.isMut = false := by
  intro i
  induction i with
  | zero => intro _ _; simp only [stN, know0]; intro j e hj; omega
  | succ i ih =>
    intro hi hl
    have ih := ih (by omega) (by omega)
    have he : es[i]? = some es[i] := List.getElem?_eq_getElem (by omega)
    have ho : l[i]? = some l[i] := List.getElem?_eq_getElem (by omega)
    simp only [stN, he, ho]
    have keep : es[i].isMut = false → match (stN l es (know0 env) i).ph with
        | none => ∀ j e, j < i + 1 → es[j]? = some e → e.isMut = false
        | some (d, U) => ∃ (j : Nat) (o : Oper), j < i + 1 ∧ l[j]? = some o ∧ o.dst = d ∧ es[j]? = some (.wri U) ∧ ∀ k e, j < k → k < i + 1 → es[k]? = some e → e.isMut = false := by
      intro hm
      cases hp : (stN l es (know0 env) i).ph with
      | none =>
        rw [hp] at ih
        simp only at ih ⊢
        intro j e hj hje
        rcases Nat.lt_or_ge j i with hlt | hge
        · exact ih j e hlt hje
        · have : j = i := by omega
          subst this; rw [he] at hje; injection hje with hje; rw [← hje]; exact hm
      | some x =>
        obtain ⟨d, U⟩ := x
        rw [hp] at ih
        simp only at ih ⊢
        obtain ⟨j, o, hj, h1, h2, h3, h4⟩ := ih
        refine ⟨j, o, by omega, h1, h2, h3, fun k e hjk hk hke => ?_⟩
        rcases Nat.lt_or_ge k i with hlt | hge
        · exact h4 k e hjk hlt hke
        · have : k = i := by omega
          subst this; rw [he] at hke; injection hke with hke; rw [← hke]; exact hm
    cases hE : es[i] with
    | val u => rw [hE] at keep; simp only [Know.add]; exact keep rfl
    | sat W => rw [hE] at keep; simp only [Know.add]; exact keep rfl
    | pre W => rw [hE] at keep; simp only [Know.add]; exact keep rfl
    | wri W =>
      simp only [Know.add]
      exact ⟨i, l[i], by omega, ho, rfl, by rw [he, hE], fun k e h1 h2 => by omega⟩

theorem stN_mu : ∀ i, i ≤ es.length → i ≤ l.length → (stN l es (know0 env) i).mu = ((es.take i).map Ent.isMut).reverse := by
  intro i
  induction i with
  | zero => intro _ _; rfl
  | succ i ih =>
    intro hi hl
    have he : es[i]? = some es[i] := List.getElem?_eq_getElem (by omega)
    have ho : l[i]? = some l[i] := List.getElem?_eq_getElem (by omega)
    have ht : es.take (i + 1) = es.take i ++ [es[i]] := by rw [List.take_add_one, he]; rfl
    simp only [stN, he, ho, ht, List.map_append, List.reverse_append]
    rw [← ih (by omega) (by omega)]
    cases es[i] <;> rfl
end

section
variable {P : Program} {c : Ctx} {n : Nat} {ds : List Deferred} {l : List Oper} {es : List Ent} {env : Env} {S : Nat → Prop} {w0 : World} {k : List Item} {Q : Out → Act → World → Prop}

abbrev Lst (listed : Array Bool) (j : Nat) : Prop := listed.getD j false = true

structure Inv (n : Nat) (ds : List Deferred) (l : List Oper) (es : List Ent) (env : Env) (S : Nat → Prop) (w0 : World) (listed : Array Bool) (a : Act) (w : World) : Prop where
  lsz : listed.size = l.length
  sz : a.tmps.size = n
  df : a.defers = ds
  ext : ExtB S w0 w
  lt : ∀ j, Lst listed j → j < es.length
  down : ∀ (j : Nat) (o : Oper) e, Lst listed j → l[j]? = some o → e ∈ o.after → Region.binds .any e = true → Lst listed e.on
  val : ∀ (j : Nat) (o : Oper) v t, Lst listed j → l[j]? = some o → es[j]? = some (.val v) → o.dst = some t → a.tmps[t]? = some v
  sat : ∀ (j : Nat) (o : Oper) V t, Lst listed j → l[j]? = some o → es[j]? = some (.sat V) → o.dst = some t → V (a.eval (.tmp t)) w
  wri : (Ext w0 w ∧ ∀ (j : Nat) e, Lst listed j → es[j]? = some e → e.isMut = false) ∨
    (∃ (j : Nat) (o : Oper) (U : Pred), Lst listed j ∧ l[j]? = some o ∧ es[j]? = some (.wri U) ∧ (∀ (i : Nat) e, Lst listed i → es[i]? = some e → e.isMut = true → i ≤ j) ∧
      ∃ x, U x w ∧ ∀ t, o.dst = some t → a.eval (.tmp t) = x)
  base : ∀ t v, env.get t = some v → (∀ (j : Nat) (o : Oper), Lst listed j → l[j]? = some o → o.dst ≠ some t) → a.tmps[t]? = some v
  pre : (∀ (j : Nat) e, Lst listed j → es[j]? = some e → e.isMut = false) → ∀ (j : Nat) (o : Oper) V t, Lst listed j → l[j]? = some o → es[j]? = some (.pre V) → o.dst = some t → V (a.eval (.tmp t)) w

theorem ord_listed {listed : Array Bool} (hdn : ∀ (j : Nat) (o : Oper) e, Lst listed j → l[j]? = some o → e ∈ o.after → Region.binds .any e = true → Lst listed e.on)
    {i j : Nat} (h : Ord l i j) : (∀ (o : Oper) e, l[j]? = some o → e ∈ o.after → Region.binds .any e = true → Lst listed e.on) → Lst listed i := by
  induction h with
  | edge ho he hb => intro hr; exact hr _ _ ho he hb
  | step ho he hb _ ih => intro hr; exact ih fun o e h1 h2 h3 => hdn _ _ _ (hr _ _ ho he hb) h1 h2 h3

theorem mu_getD {i : Nat} : ((es.map Ent.isMut).getD i false = true) ↔ ∃ e, es[i]? = some e ∧ e.isMut = true := by
  rw [List.getD_eq_getElem?_getD, List.getElem?_map]
  cases es[i]? <;> simp

theorem lst_set {listed : Array Bool} {i j : Nat} (hsz : i < listed.size) : Lst (listed.setIfInBounds i true) j ↔ (j = i ∨ Lst listed j) := by
  unfold Lst
  by_cases h : i = j
  · subst h; simp [hsz]
  · rw [getD_set_ne false h]
    exact ⟨.inr, fun hh => hh.resolve_left fun e => h e.symm⟩

theorem eval_put_ne (a : Act) {d : Option Nat} {t : Nat} (v : Value) (h : d ≠ some t) : (a.put d v).eval (.tmp t) = a.eval (.tmp t) :=
  Act.eval_put fun d' hd e => h (by rw [hd]; injection e with e; rw [e])
theorem tmps_put_ne (a : Act) {d : Option Nat} {t : Nat} (v : Value) (h : d ≠ some t) : (a.put d v).tmps[t]? = a.tmps[t]? := by
  cases d with
  | none => rfl
  | some d => simp [Act.put, Array.getElem?_setIfInBounds_ne (fun e => h (by rw [e]) : d ≠ t)]

variable (hok : Okay l (es.map Ent.isMut)) (hop : ∀ (i : Nat) o e, l[i]? = some o → es[i]? = some e → OpOk P n S w0 l.toArray (stN l es (know0 env) i) o e) (hm : es.length ≤ l.length)
include hok hm

theorem wri_lt {listed : Array Bool} {a : Act} {w : World} (h : Inv n ds l es env S w0 listed a w) {i j : Nat} {e e' : Ent} (hi : es[i]? = some e) (hmi : e.isMut = true)
    (hun : ¬ Lst listed i) (hj : Lst listed j) (hej : es[j]? = some e') (hmj : e'.isMut = true) : j < i := by
  rcases Nat.lt_trichotomy j i with hlt | heq | hgt
  · exact hlt
  · subst heq; exact absurd hj hun
  · exfalso
    have hi' : i < l.length := by
      have : i < es.length := by
        rcases Nat.lt_or_ge i es.length with h | h
        · exact h
        · rw [List.getElem?_eq_none h] at hi; simp at hi
      omega
    have hj' : j < l.length := by have := h.lt j hj; omega
    rcases hok.pair i j l[i] l[j] hgt (List.getElem?_eq_getElem hi') (List.getElem?_eq_getElem hj') with ho | ⟨-, -, hn⟩
    · exact hun (ord_listed h.down ho fun o e h1 h2 h3 => h.down j o e hj h1 h2 h3)
    · exact hn ⟨mu_getD.2 ⟨_, hi, hmi⟩, mu_getD.2 ⟨_, hej, hmj⟩⟩

include hop

theorem Inv.next {listed : Array Bool} {a : Act} {w : World} (h : Inv n ds l es env S w0 listed a w) {i : Nat} {o : Oper} {e : Ent} (hi : l[i]? = some o) (he : es[i]? = some e)
    (hun : ¬ Lst listed i) (hr : ∀ e ∈ o.after, Region.binds .any e = true → Lst listed e.on) {v : Value} {w' : World} (hx : ExtB S w w') (hx' : e.isMut = false → Ext w w')
    (hv : e.Holds v w') : Inv n ds l es env S w0 (listed.setIfInBounds i true) (a.put o.dst v) w' := by
  have hie : i < es.length := by
    rcases Nat.lt_or_ge i es.length with h | h
    · exact h
    · rw [List.getElem?_eq_none h] at he; simp at he
  have hil : i < listed.size := by rw [h.lsz]; omega
  have hdst : ∀ (j : Nat) (x : Oper), j ≠ i → j < es.length → l[j]? = some x → ∀ d, x.dst = some d → o.dst ≠ some d := by
    intro j x hne hj hx d hd
    rcases Nat.lt_or_gt_of_ne hne with hlt | hgt
    · exact hok.dst j i x o hlt (by simpa using hie) hx hi d hd
    · intro hod; exact hok.dst i j o x hgt (by simpa using hj) hi hx d hod hd
  have hdk : dstOk n o.dst = true := by
    have := hop i o e hi he
    cases e <;> exact this.1
  have hput : ∀ t, o.dst = some t → (a.put o.dst v).tmps[t]? = some v := by
    intro t ht
    have := dstOk_lt hdk t ht
    rw [ht]
    simp [Act.put, h.sz, this]
  have hputE : ∀ t, o.dst = some t → (a.put o.dst v).eval (.tmp t) = v := by
    intro t ht; simp [Act.eval, hput t ht]
  refine ⟨by simp [h.lsz], ?_, ?_, h.ext.trans hx, ?_, ?_, ?_, ?_, ?_, ?_, ?_⟩
  · cases o.dst <;> simp [Act.put, h.sz]
  · cases o.dst <;> exact h.df
  · intro j hj
    rcases (lst_set hil).1 hj with rfl | hj
    · exact hie
    · exact h.lt j hj
  · intro j x ed hj hx hed hb
    rcases (lst_set hil).1 hj with rfl | hj
    · rw [hi] at hx; injection hx with hx; subst hx
      exact (lst_set hil).2 (.inr (hr ed hed hb))
    · exact (lst_set hil).2 (.inr (h.down j x ed hj hx hed hb))
  · intro j x u t hj hx hu ht
    rcases (lst_set hil).1 hj with rfl | hj
    · rw [hi] at hx; injection hx with hx; subst hx
      rw [he] at hu; injection hu with hu; subst hu
      have hv : v = u := hv
      subst hv; exact hput t ht
    · have hne : j ≠ i := fun e => hun (e ▸ hj)
      rw [tmps_put_ne a v (hdst j x hne (h.lt j hj) hx t ht)]
      exact h.val j x u t hj hx hu ht
  · intro j x V t hj hx' hu ht
    rcases (lst_set hil).1 hj with rfl | hj
    · rw [hi] at hx'; injection hx' with hx'; subst hx'
      rw [he] at hu; injection hu with hu; subst hu
      rw [hputE t ht]; exact hv
    · have hne : j ≠ i := fun e => hun (e ▸ hj)
      rw [eval_put_ne a v (hdst j x hne (h.lt j hj) hx' t ht)]
      exact (hop j x _ hx' hu).2.2.2.2.1 _ _ _ h.ext hx (h.sat j x V t hj hx' hu ht)
  · cases hmu : e.isMut with
    | true =>
      right
      obtain ⟨V, rfl⟩ : ∃ V, e = .wri V := by cases e <;> simp_all [Ent.isMut]
      refine ⟨i, o, V, (lst_set hil).2 (.inl rfl), hi, he, ?_, v, hv, hputE⟩
      intro j e' hj he' hm'
      rcases (lst_set hil).1 hj with rfl | hj
      · exact Nat.le_refl _
      · exact Nat.le_of_lt (wri_lt hok hm h he rfl hun hj he' hm')
    | false =>
      have hE := hx' hmu
      rcases h.wri with ⟨h1, h2⟩ | ⟨j, x, U, hj, h1, h2, h3, y, h4, h5⟩
      · left
        refine ⟨h1.trans hE, fun j e' hj he' => ?_⟩
        rcases (lst_set hil).1 hj with rfl | hj
        · rw [he] at he'; injection he' with he'; subst he'; exact hmu
        · exact h2 j e' hj he'
      · right
        have hne : j ≠ i := fun e => hun (e ▸ hj)
        refine ⟨j, x, U, (lst_set hil).2 (.inr hj), h1, h2, ?_, y, ?_, ?_⟩
        · intro i' e' hi' he' hm'
          rcases (lst_set hil).1 hi' with rfl | hi'
          · rw [he] at he'; injection he' with he'; subst he'; rw [hmu] at hm'; simp at hm'
          · exact h3 i' e' hi' he' hm'
        · exact (hop j x _ h1 h2).2.2.2.2.1 _ _ _ h.ext hE h4
        · intro t ht
          rw [eval_put_ne a v (hdst j x hne (h.lt j hj) h1 t ht)]
          exact h5 t ht
  · intro t u ht hall
    have hne : o.dst ≠ some t := hall i o ((lst_set hil).2 (.inl rfl)) hi
    rw [tmps_put_ne a v hne]
    exact h.base t u ht fun j x hj hx => hall j x ((lst_set hil).2 (.inr hj)) hx
  · intro hno j x V t hj hxj hu ht
    have hmu : e.isMut = false := hno i e ((lst_set hil).2 (.inl rfl)) he
    have hE := hx' hmu
    rcases (lst_set hil).1 hj with rfl | hj
    · rw [hi] at hxj; injection hxj with hxj; subst hxj
      rw [he] at hu; injection hu with hu; subst hu
      rw [hputE t ht]; exact hv
    · have hne : j ≠ i := fun e => hun (e ▸ hj)
      rw [eval_put_ne a v (hdst j x hne (h.lt j hj) hxj t ht)]
      exact (hop j x _ hxj hu).2.2.2.2.1 _ _ _ h.ext hE (h.pre (fun j' e' hj' he' => hno j' e' ((lst_set hil).2 (.inr hj')) he') j x V t hj hxj hu ht)

omit hop hm in
/-- What an operation that may come next reads. -/
theorem Inv.read {listed : Array Bool} {a : Act} {w : World} (h : Inv n ds l es env S w0 listed a w) {i : Nat} {o : Oper} (hi : l[i]? = some o) (hie : i < es.length)
    (hun : ¬ Lst listed i) (hr : ∀ e ∈ o.after, Region.binds .any e = true → Lst listed e.on) {t : Nat} (ht : t ∈ o.looksAt l.toArray) {v : Value}
    (hv : (stN l es (know0 env) i).env.get t = some v) : a.tmps[t]? = some v := by
  have rdy : ∀ j, Ord l j i → Lst listed j := fun j hj => ord_listed h.down hj fun o' e h1 h2 h3 => by
    rw [hi] at h1; injection h1 with h1; subst h1; exact hr e h2 h3
  rcases stN_env (fun i j x o hij hj hx ho d => hok.dst i j x o hij (by simpa using hj) hx ho d) i (by omega) t v hv with ⟨j, x, hj, h1, h2, h3⟩ | ⟨h1, h2⟩
  · rcases hok.pair j i x o hj h1 hi with ho | ⟨-, ha, -⟩
    · exact h.val j x v t (rdy j ho) h1 h3 h2
    · exact absurd ht ((Oper.apart_spec ha).1 t h2)
  · refine h.base t v h2 fun j x hj hx hd => ?_
    rcases Nat.lt_trichotomy j i with hlt | heq | hgt
    · exact h1 j x hlt hx hd
    · subst heq; exact hun hj
    · rcases hok.pair i j o x hgt hi hx with ho | ⟨-, ha, -⟩
      · exact hun (ord_listed h.down ho fun o e h1 h2 h3 => h.down j o e hj h1 h2 h3)
      · exact (Oper.apart_spec ha).2.2 t hd ht

omit hop hm in
theorem Inv.readS {listed : Array Bool} {a : Act} {w : World} (h : Inv n ds l es env S w0 listed a w) {i : Nat} {o : Oper} (hi : l[i]? = some o) (hie : i < es.length)
    (hr : ∀ e ∈ o.after, Region.binds .any e = true → Lst listed e.on) {d : Nat} (ht : d ∈ o.looksAt l.toArray) {V : Pred}
    (hv : (d, V) ∈ (stN l es (know0 env) i).sats) : V (a.eval (.tmp d)) w := by
  obtain ⟨j, x, hj, h1, h2, h3⟩ := stN_sats i (by omega) d V hv
  have rdy : ∀ j, Ord l j i → Lst listed j := fun j hj => ord_listed h.down hj fun o' e h1 h2 h3 => by
    rw [hi] at h1; injection h1 with h1; subst h1; exact hr e h2 h3
  rcases hok.pair j i x o hj h1 hi with ho | ⟨-, ha, -⟩
  · exact h.sat j x V d (rdy j ho) h1 h3 h2
  · exact absurd ht ((Oper.apart_spec ha).1 d h2)

omit hop hm in
theorem Inv.readP {listed : Array Bool} {a : Act} {w : World} (h : Inv n ds l es env S w0 listed a w) {i : Nat} {o : Oper} (hi : l[i]? = some o) (hie : i < es.length)
    (hr : ∀ e ∈ o.after, Region.binds .any e = true → Lst listed e.on) (hno : ∀ (j : Nat) e, Lst listed j → es[j]? = some e → e.isMut = false) {d : Nat} (ht : d ∈ o.looksAt l.toArray) {V : Pred}
    (hv : (d, V) ∈ (stN l es (know0 env) i).pres) : V (a.eval (.tmp d)) w := by
  obtain ⟨j, x, hj, h1, h2, h3⟩ := stN_pres i (by omega) d V hv
  have rdy : ∀ j, Ord l j i → Lst listed j := fun j hj => ord_listed h.down hj fun o' e h1 h2 h3 => by
    rw [hi] at h1; injection h1 with h1; subst h1; exact hr e h2 h3
  rcases hok.pair j i x o hj h1 hi with ho | ⟨-, ha, -⟩
  · exact h.pre hno j x V d (rdy j ho) h1 h3 h2
  · exact absurd ht ((Oper.apart_spec ha).1 d h2)

def tailEnv (s : Know) (xs : Nat → Value) : Env :=
  s.sats.map (fun e => (e.1, xs e.1)) ++ ((match s.ph with | some (some t, _) => [(t, xs t)] | _ => []) ++ s.env)

omit hok hop hm in
theorem order_run (hmr : P.follows .mixedOrders = true) {x : Nat} {a : Act} (h : ∀ t, Run P c (.inRegion l.toArray (Region.linearise.go .any l.toArray l.length t (Array.replicate l.length false) []) :: k) Q a { w0 with drawn := w0.drawn + 1 }) :
    Run P c (.code (.region x l.toArray true) :: k) Q a w0 := by
  refine .regionDraw fun t => ?_
  simp only [Region.schedule, hmr, Bool.true_or, if_true, Region.linearise, List.size_toArray]
  exact h t

omit hop hm in
theorem tail_order {fuel t : Nat} {listed : Array Bool} {j : Nat} (hsz : listed.size = l.length) (hl : ∀ i, Lst listed i ↔ i < j) (hj : es.length ≤ j) (hjl : j ≤ l.length) (hf : l.length ≤ j + fuel) :
    Region.linearise.go .any l.toArray fuel t listed [] = List.range' j (l.length - j) := by
  induction fuel generalizing t listed j with
  | zero => rw [show l.length - j = 0 by omega]; rfl
  | succ fuel ih =>
    simp only [Region.linearise.go]
    change (match (Region.ready .any l.toArray listed)[t % (Region.ready .any l.toArray listed).length]? with
      | some i => Region.linearise.go .any l.toArray fuel (t / (Region.ready .any l.toArray listed).length) (listed.setIfInBounds i true) [i]
      | none => [].reverse) = _
    have only : ∀ i, i ∈ Region.ready .any l.toArray listed → i = j := by
      intro i hi
      obtain ⟨h0, o, ho, hr⟩ := mem_ready.1 hi
      have ho' : l[i]? = some o := by simpa using ho
      have hil : i < l.length := by
        rcases Nat.lt_or_ge i l.length with h | h
        · exact h
        · rw [List.getElem?_eq_none h] at ho'; simp at ho'
      have hge : j ≤ i := by
        rcases Nat.lt_or_ge i j with h | h
        · have h1 := (hl i).2 h
          unfold Lst at h1
          have h2 : i < listed.size := by omega
          simp [h2] at h0 h1
          rw [h0] at h1; simp at h1
        · exact h
      rcases Nat.lt_or_eq_of_le hge with hlt | heq
      · exfalso
        rcases hok.pair j i l[j] o hlt (List.getElem?_eq_getElem (by omega)) ho' with h | ⟨h, -⟩
        · have : Lst listed j := by
            have hback : ∀ a b, Ord l a b → a < b := by
              intro a b hab
              induction hab with
              | edge ho he hb => exact hok.back _ _ ho _ he hb
              | step ho he hb _ ih => exact Nat.lt_trans ih (hok.back _ _ ho _ he hb)
            cases h with
            | edge ho2 he hb =>
              rw [ho'] at ho2; injection ho2 with ho2; subst ho2
              exact hr _ he hb
            | step ho2 he hb h =>
              rw [ho'] at ho2; injection ho2 with ho2; subst ho2
              have h1 := (hl _).1 (hr _ he hb)
              have h2 := hback _ _ h
              omega
          have := (hl j).1 this
          omega
        · simp at h; omega
      · exact heq.symm
    rcases Nat.lt_or_ge j l.length with hlt | hge
    · have hjr : j ∈ Region.ready .any l.toArray listed := by
        refine mem_ready.2 ⟨?_, l[j], by simp [hlt], fun e he hb => (hl _).2 ?_⟩
        · have h1 : ¬ Lst listed j := fun h => by have := (hl j).1 h; omega
          unfold Lst at h1
          have h2 : j < listed.size := by omega
          simp [h2] at h1 ⊢
          exact h1
        · exact hok.back j l[j] (List.getElem?_eq_getElem hlt) e he hb
      have hpos : 0 < (Region.ready .any l.toArray listed).length := List.length_pos_of_mem hjr
      have hget : (Region.ready .any l.toArray listed)[t % (Region.ready .any l.toArray listed).length]? = some j := by
        have hlt' := Nat.mod_lt t hpos
        rw [List.getElem?_eq_getElem hlt']
        rw [only _ (List.getElem_mem hlt')]
      rw [hget]
      simp only
      rw [linearise_go_acc, List.reverse_singleton, List.singleton_append, ih (by simp [hsz]) (j := j + 1) ?_ (by omega) (by omega) (by omega)]
      · rw [show l.length - j = (l.length - (j + 1)) + 1 by omega, List.range'_succ]
      · intro i
        rw [lst_set (by omega), hl]
        omega
    · have hnil : Region.ready .any l.toArray listed = [] := by
        cases hr : Region.ready .any l.toArray listed with
        | nil => rfl
        | cons x xs =>
          have hx : x ∈ Region.ready .any l.toArray listed := by rw [hr]; exact List.mem_cons_self
          have := only x hx
          subst this
          obtain ⟨-, o, ho, -⟩ := mem_ready.1 hx
          have ho' : l[x]? = some o := by simpa using ho
          rw [List.getElem?_eq_none hge] at ho'; simp at ho'
      rw [hnil, show l.length - j = 0 by omega]
      rfl

def AsyT (P : Program) (c : Ctx) (n : Nat) (ds : List Deferred) (S : Nat → Prop) (w0 : World) (l : List Oper) (k : List Item) (Q : Out → Act → World → Prop) (s : Know) (rest : List Oper) : Prop :=
  chk l s.mu.reverse l [] = true ∧ ∀ w' (xs : Nat → Value), ExtB S w0 w' → (∀ d V, (d, V) ∈ s.sats → V (xs d) w') →
    (match s.ph with | none => Ext w0 w' | some (d, U) => ∃ x, U x w' ∧ ∀ t, d = some t → xs t = x) → RunL P c n ds l.toArray rest k Q (tailEnv s xs) w'

theorem asy_end (htail : AsyT P c n ds S w0 l k Q (stN l es (know0 env) es.length) (l.drop es.length)) {fuel t : Nat} {listed : Array Bool} {a : Act} {w : World}
    (h : Inv n ds l es env S w0 listed a w) (hc : listed.toList.count false ≤ fuel) (hall : ∀ i, i < es.length → Lst listed i) :
      Run P c (.inRegion l.toArray (Region.linearise.go .any l.toArray fuel t listed []) :: k) Q a w := by
  have hl : ∀ i, Lst listed i ↔ i < es.length := fun i => ⟨h.lt i, hall i⟩
  have hfuel : l.length ≤ es.length + fuel := by
    have h1 : (listed.toList.drop es.length).count false = (listed.toList.drop es.length).length := by
      rw [List.count_eq_length]
      intro b hb
      obtain ⟨i, hi, rfl⟩ := List.getElem_of_mem hb
      have hn : ¬ Lst listed (es.length + i) := fun hh => by have := (hl _).1 hh; omega
      simp only [List.getElem_drop, Array.getElem_toList]
      unfold Lst at hn
      simp only [List.length_drop, Array.length_toList] at hi
      have h2 : es.length + i < listed.size := by omega
      simp only [Array.getD_eq_getD_getElem?, Array.getElem?_eq_getElem h2, Option.getD_some] at hn
      simpa using hn
    have h2 : (listed.toList.drop es.length).count false ≤ listed.toList.count false := (List.drop_sublist _ _).count_le _
    have h3 : (listed.toList.drop es.length).length = l.length - es.length := by simp [h.lsz]
    omega
  rw [tail_order hok (by exact h.lsz) hl (Nat.le_refl _) hm hfuel]
  have hdst : ∀ (i j : Nat) (x o : Oper), i < j → j < es.length → l[i]? = some x → l[j]? = some o → ∀ d, x.dst = some d → o.dst ≠ some d := fun i j x o hij hj hx ho d => hok.dst i j x o hij (by simpa using hj) hx ho d
  have hlt : ∀ (j : Nat) (o : Oper) e, l[j]? = some o → es[j]? = some e → ∀ t, o.dst = some t → t < n := by
    intro j o e ho he
    have := hop j o e ho he
    have hk : dstOk n o.dst = true := by cases e <;> exact this.1
    exact dstOk_lt hk
  have hcell : ∀ t, t < n → a.tmps[t]? = some (a.eval (.tmp t)) := by
    intro t ht
    have : t < a.tmps.size := by rw [h.sz]; exact ht
    simp [Act.eval, Array.getElem?_eq_getElem this]
  have hlen : ∀ {j : Nat} {e : Ent}, es[j]? = some e → j < es.length := by
    intro j e he
    rcases Nat.lt_or_ge j es.length with h | h
    · exact h
    · rw [List.getElem?_eq_none h] at he; simp at he
  have hph := stN_ph (l := l) (es := es) (env := env) es.length (Nat.le_refl _) hm
  have := htail.2 w (fun t => a.eval (.tmp t)) h.ext (fun d V hd => by
      obtain ⟨j, o, hj, h1, h2, h3⟩ := stN_sats es.length (Nat.le_refl _) d V hd
      exact h.sat j o V d (hall j hj) h1 h3 h2) (by
      cases hp : (stN l es (know0 env) es.length).ph with
      | none =>
        rw [hp] at hph
        simp only at hph ⊢
        rcases h.wri with ⟨h1, -⟩ | ⟨j, o, U, hj, -, h2, -⟩
        · exact h1
        · have := hph j _ (h.lt j hj) h2; simp [Ent.isMut] at this
      | some x =>
        obtain ⟨d, U⟩ := x
        rw [hp] at hph
        simp only at hph ⊢
        obtain ⟨j, o, hj, h1, h2, h3, h4⟩ := hph
        rcases h.wri with ⟨-, h5⟩ | ⟨i, o', U', hi, h5, h6, h7, y, h8, h9⟩
        · have := h5 j _ (hall j hj) h3; simp [Ent.isMut] at this
        · have hij : i = j := by
            have h10 := h7 j _ (hall j hj) h3 rfl
            rcases Nat.lt_or_eq_of_le h10 with hlt | heq
            · have := h4 i _ hlt (h.lt i hi) h6; simp [Ent.isMut] at this
            · exact heq.symm
          subst hij
          rw [h1] at h5; injection h5 with h5; subst h5
          rw [h3] at h6; injection h6 with h6; injection h6 with h6; subst h6
          exact ⟨y, h8, fun t ht => h9 t (by rw [h2, ht])⟩)
  have hrun := this es.length (by simp) a ⟨h.sz, h.df, ?_⟩
  · rw [List.length_drop] at hrun; exact hrun
  · intro t v ht
    unfold tailEnv at ht
    have app : ∀ (A B : Env) (t : Nat) (v : Value), Env.get (A ++ B) t = some v → (t, v) ∈ A ∨ Env.get B t = some v := by
      intro A
      induction A with
      | nil => intro B t v h; exact .inr h
      | cons e r ih =>
        intro B t v h
        obtain ⟨kk, u⟩ := e
        by_cases hk : kk = t
        · subst hk
          rw [List.cons_append, Env.get_cons_same] at h
          injection h with h; subst h; exact .inl List.mem_cons_self
        · rw [List.cons_append, Env.get_cons_ne hk] at h
          rcases ih B t v h with h | h
          · exact .inl (List.mem_cons_of_mem _ h)
          · exact .inr h
    rcases app _ _ _ _ ht with ht | ht
    · obtain ⟨⟨d, V⟩, hd, he⟩ := List.mem_map.1 ht
      simp only at he
      injection he with h1 h2; subst h1; subst h2
      obtain ⟨j, o, hj, h1, h2, h3⟩ := stN_sats es.length (Nat.le_refl _) d V hd
      exact hcell d (hlt j o _ h1 h3 d h2)
    · rcases app _ _ _ _ ht with ht | ht
      · cases hp : (stN l es (know0 env) es.length).ph with
        | none => rw [hp] at ht; simp at ht
        | some x =>
          obtain ⟨d, U⟩ := x
          rw [hp] at ht hph
          cases d with
          | none => simp at ht
          | some d =>
            simp only [List.mem_singleton] at ht
            injection ht with h1 h2; subst h1; subst h2
            obtain ⟨j, o, hj, h1, h2, h3, -⟩ := hph
            exact hcell _ (hlt j o _ h1 h3 _ h2)
      · rcases stN_env hdst es.length (Nat.le_refl _) t v ht with ⟨j, o, hj, h1, h2, h3⟩ | ⟨h1, h2⟩
        · exact h.val j o v t (hall j hj) h1 h3 h2
        · exact h.base t v h2 fun j o hj hx => h1 j o (h.lt j hj) hx

theorem asy_go (htail : AsyT P c n ds S w0 l k Q (stN l es (know0 env) es.length) (l.drop es.length)) :
    ∀ (fuel t : Nat) (listed : Array Bool) (a : Act) (w : World), Inv n ds l es env S w0 listed a w → listed.toList.count false ≤ fuel →
      Run P c (.inRegion l.toArray (Region.linearise.go .any l.toArray fuel t listed []) :: k) Q a w := by
  intro fuel
  induction fuel with
  | zero =>
    intro t listed a w h hc
    refine asy_end hok hop hm htail h hc fun i hi => ?_
    unfold Lst
    have h2 : i < listed.size := by rw [h.lsz]; omega
    simp only [Array.getD_eq_getD_getElem?, Array.getElem?_eq_getElem h2, Option.getD_some]
    cases hb : listed[i] with
    | true => rfl
    | false =>
      have : false ∈ listed.toList := by rw [← hb]; simp
      have := List.count_pos_iff.2 this
      omega
  | succ fuel ih =>
    intro t listed a w h hc
    by_cases hall : ∀ i, i < es.length → Lst listed i
    · exact asy_end hok hop hm htail h hc hall
    · -- the least one that is not listed may come next
      have hex : ∃ i, i < es.length ∧ ¬ Lst listed i := by
        refine Classical.byContradiction fun hn => hall fun i hi => Classical.byContradiction fun hc => hn ⟨i, hi, hc⟩
      have unl : ∀ i, i < es.length → ¬ Lst listed i → listed.getD i true = false := by
        intro i hi hn
        have h2 : i < listed.size := by rw [h.lsz]; omega
        unfold Lst at hn
        simp only [Array.getD_eq_getD_getElem?, Array.getElem?_eq_getElem h2, Option.getD_some] at hn ⊢
        simpa using hn
      obtain ⟨i0, hi0, hmin⟩ : ∃ i, (i < es.length ∧ ¬ Lst listed i) ∧ ∀ j, j < i → Lst listed j := by
        obtain ⟨i, hi, hn⟩ := hex
        induction i using Nat.strongRecOn with
        | ind i ihi =>
          by_cases hq : ∀ j, j < i → Lst listed j
          · exact ⟨i, ⟨hi, hn⟩, hq⟩
          · obtain ⟨j, hj, hnj⟩ : ∃ j, j < i ∧ ¬ Lst listed j := Classical.byContradiction fun hn' => hq fun j hj => Classical.byContradiction fun hc => hn' ⟨j, hj, hc⟩
            exact ihi j hj (by omega) hnj
      have hr0 : i0 ∈ Region.ready .any l.toArray listed := by
        have hil : i0 < l.length := by omega
        refine mem_ready.2 ⟨unl i0 hi0.1 hi0.2, l[i0], by simp [hil], fun e he hb => hmin _ ?_⟩
        exact hok.back i0 l[i0] (List.getElem?_eq_getElem hil) e he hb
      simp only [Region.linearise.go]
      change Run P c (.inRegion l.toArray (match (Region.ready .any l.toArray listed)[t % (Region.ready .any l.toArray listed).length]? with
        | some i => Region.linearise.go .any l.toArray fuel (t / (Region.ready .any l.toArray listed).length) (listed.setIfInBounds i true) [i]
        | none => [].reverse) :: k) Q a w
      have hpos : 0 < (Region.ready .any l.toArray listed).length := List.length_pos_of_mem hr0
      have hlt' := Nat.mod_lt t hpos
      rw [List.getElem?_eq_getElem hlt']
      have hi := List.getElem_mem hlt'
      generalize (Region.ready .any l.toArray listed)[t % (Region.ready .any l.toArray listed).length] = i at hi ⊢
      simp only
      rw [linearise_go_acc, List.reverse_singleton, List.singleton_append]
      obtain ⟨h0, o, ho, hr⟩ := mem_ready.1 hi
      have ho' : l[i]? = some o := by simpa using ho
      have hil : i < l.length := by
        rcases Nat.lt_or_ge i l.length with h | h
        · exact h
        · rw [List.getElem?_eq_none h] at ho'; simp at ho'
      have hsz : i < listed.size := by rw [h.lsz]; exact hil
      have hun : ¬ Lst listed i := by
        unfold Lst
        simp only [Array.getD_eq_getD_getElem?, Array.getElem?_eq_getElem hsz, Option.getD_some] at h0 ⊢
        rw [h0]; simp
      have hie : i < es.length := by
        rcases Nat.lt_or_ge i es.length with h' | h'
        · exact h'
        · exfalso
          have hlt : i0 < i := by omega
          rcases hok.pair i0 i l[i0] o hlt (List.getElem?_eq_getElem (by omega)) ho' with h1 | ⟨h1, -⟩
          · exact hi0.2 (ord_listed h.down h1 fun o' e h2 h3 h4 => by
              rw [ho'] at h2; injection h2 with h2; subst h2; exact hr e h3 h4)
          · simp at h1; omega
      have he : es[i]? = some es[i] := List.getElem?_eq_getElem hie
      have hO := hop i o _ ho' he
      have hcount : (listed.setIfInBounds i true).toList.count false ≤ fuel := by
        have h1 : listed[i] = false := by
          simpa only [Array.getD_eq_getD_getElem?, Array.getElem?_eq_getElem hsz, Option.getD_some] using h0
        rw [Array.toList_setIfInBounds, List.count_set (by simpa using hsz)]
        simp only [Array.getElem_toList, h1]
        simp only [beq_self_eq_true, if_true]
        rw [if_neg (by decide)]
        omega
      have step : ∀ {v : Value} {w' : World}, ExtB S w w' → (es[i].isMut = false → Ext w w') → es[i].Holds v w' →
          Run P c (.inRegion l.toArray (Region.linearise.go .any l.toArray fuel (t / (Region.ready .any l.toArray listed).length) (listed.setIfInBounds i true) []) :: k) Q (a.put o.dst v) w' :=
        fun hx hx' hv => ih _ _ _ _ (h.next hok hop hm ho' he hun hr hx hx' hv) hcount
      -- what the operation reads
      let ρ : Operand → Value := fun x => match x with
        | .tmp t => bif (o.looksAt l.toArray).contains t then a.eval (.tmp t) else ((stN l es (know0 env) i).env.get t).getD undef
        | x => a.eval x
      have hρt : ∀ t, t ∈ o.looksAt l.toArray → ρ (.tmp t) = a.eval (.tmp t) := by
        intro t ht
        have : (o.looksAt l.toArray).contains t = true := by simpa using ht
        simp only [ρ, this, cond_true]
      have hgo : Goes l.toArray (stN l es (know0 env) i) o w ρ := by
        refine ⟨?_, ?_⟩
        · intro x v hx
          cases x with
          | tmp t =>
            by_cases ht : t ∈ o.looksAt l.toArray
            · rw [hρt t ht]
              have := h.read hok ho' hie hun hr ht hx
              simp [Act.eval, this]
            · have hb : (o.looksAt l.toArray).contains t = false := by simpa using ht
              simp only [evO] at hx
              simp only [ρ, hb, cond_false, hx, Option.getD_some]
          | const u => simpa [evO, Act.eval, ρ] using hx
          | global g => simpa [evO, Act.eval, ρ] using hx
          | func f => simpa [evO, Act.eval, ρ] using hx
        · intro d V hd hl
          rw [hρt d hl]
          exact h.readS hok ho' hie hr hl hd
      have hcong : isSel o.op = false → execOp ρ o = execOp a.eval o := by
        intro hs
        refine execOp_congr o (fun cs b e => by rw [e] at hs; simp [isSel] at hs) fun x hx => ?_
        cases x with
        | tmp t =>
          refine hρt t ?_
          exact List.mem_append_left _ (List.mem_filterMap.2 ⟨.tmp t, by simpa using hx, rfl⟩)
        | _ => rfl
      have hwant : ∀ b, wantE l.toArray.toList (stN l es (know0 env) i).env o = some b → Region.wanted o (yielded l.toArray a.tmps) = b := by
        intro b hb
        unfold wantE at hb
        unfold Region.wanted
        split at hb
        · rename_i hg; simp at hb; subst hb; simp [hg]
        · rename_i j b0 hg
          rw [hg]
          split at hb
          · rename_i t' ht'
            have hd : (l.toArray[j]?).bind (·.dst) = some t' := by simpa using ht'
            have hlook : t' ∈ o.looksAt l.toArray := List.mem_append_right _ (by simp only [hg, hd]; simp)
            split at hb
            · rename_i b' hb'
              have := h.read hok ho' hie hun hr hlook hb'
              simp only [yielded, hd, Option.bind_some, this]
              simp at hb; subst hb
              cases b0 <;> cases b' <;> rfl
            · rename_i hb'
              have := h.read hok ho' hie hun hr hlook hb'
              simp only [yielded, hd, Option.bind_some, this]
              simp at hb; subst hb
              cases b0 <;> rfl
            · simp at hb
          · simp at hb
      cases hE : es[i] with
      | val v =>
        rw [hE] at hO step
        obtain ⟨hdk, hsel, hw | ⟨hw, hdf, hex⟩⟩ := hO
        · refine Run.opSkip (by rw [ho]; simp [hwant _ hw.1]) ?_
          rw [ho]
          exact step (ExtB.refl S w) (fun _ => ExtB.refl _ w) hw.2.symm
        · refine Run.op ho (hwant _ hw) hdf ?_
          rw [← hcong hsel]
          exact (hex w ρ h.ext hgo).mono (fun u w' hu => step (.of_ext hu.2) (fun _ => hu.2) hu.1) (fun _ _ hf => hf.elim)
      | sat V =>
        rw [hE] at hO step
        obtain ⟨hdk, hsel, hw, hdf, -, hex⟩ := hO
        refine Run.op ho (hwant _ hw) hdf ?_
        rw [← hcong hsel]
        exact (hex w ρ h.ext hgo).mono (fun u w' hu => step (.of_ext hu.1) (fun _ => hu.1) hu.2) (fun _ _ hf => hf.elim)
      | pre V =>
        rw [hE] at hO step
        obtain ⟨hdk, hsel, hw, hdf, -, hex⟩ := hO
        refine Run.op ho (hwant _ hw) hdf ?_
        rw [← hcong hsel]
        exact (hex w ρ h.ext hgo).mono (fun u w' hu => step (.of_ext hu.1) (fun _ => hu.1) hu.2) (fun _ _ hf => hf.elim)
      | wri V =>
        rw [hE] at hO step
        obtain ⟨hdk, hsel, hw, hdf, -, hex⟩ := hO
        refine Run.op ho (hwant _ hw) hdf ?_
        rw [← hcong hsel]
        have hnone : (stN l es (know0 env) i).ph = none → ∀ (j : Nat) e, Lst listed j → es[j]? = some e → e.isMut = false := by
          intro hp j e' hj he'
          have hph := stN_ph (l := l) (es := es) (env := env) i (by omega) (by omega)
          rw [hp] at hph
          simp only at hph
          rw [hE] at he
          cases hm' : e'.isMut with
          | false => rfl
          | true =>
            have hlt := wri_lt hok hm h he rfl hun hj he' hm'
            have := hph j _ hlt he'; rw [hm'] at this; simp at this
        refine (hex w ρ ?_ hgo (fun hp d V hd hl => by rw [hρt d hl]; exact h.readP hok ho' hie hr (hnone hp) hl hd)).mono (fun u w' hu => step hu.1 (fun hf => by simp [Ent.isMut] at hf) hu.2) (fun _ _ hf => hf.elim)
        have hph := stN_ph (l := l) (es := es) (env := env) i (by omega) (by omega)
        unfold PhOk
        rw [hE] at he
        cases hp : (stN l es (know0 env) i).ph with
        | none =>
          rw [hp] at hph
          simp only at hph ⊢
          rcases h.wri with ⟨h1, -⟩ | ⟨j, x, U, hj, -, h2, -⟩
          · exact h1
          · have hlt := wri_lt hok hm h he rfl hun hj h2 rfl
            have := hph j _ hlt h2; simp [Ent.isMut] at this
        | some y =>
          obtain ⟨d, U⟩ := y
          rw [hp] at hph
          simp only at hph ⊢
          obtain ⟨j, x, hj, h1, h2, h3, h4⟩ := hph
          have hlj : Lst listed j := by
            rcases hok.pair j i x o hj h1 ho' with h5 | ⟨-, -, h5⟩
            · exact ord_listed h.down h5 fun o' e h2 h3 h4 => by
                rw [ho'] at h2; injection h2 with h2; subst h2; exact hr e h3 h4
            · exact absurd ⟨mu_getD.2 ⟨_, h3, rfl⟩, mu_getD.2 ⟨_, he, rfl⟩⟩ h5
          rcases h.wri with ⟨-, h5⟩ | ⟨i', o', U', hi', h5, h6, h7, y, h8, h9⟩
          · have := h5 j _ hlj h3; simp [Ent.isMut] at this
          · have hij : i' = j := by
              have h10 := h7 j _ hlj h3 rfl
              rcases Nat.lt_or_eq_of_le h10 with hlt | heq
              · have h11 := wri_lt hok hm h he rfl hun hi' h6 rfl
                have := h4 i' _ hlt h11 h6; simp [Ent.isMut] at this
              · exact heq.symm
            subst hij
            rw [h1] at h5; injection h5 with h5; subst h5
            rw [h3] at h6; injection h6 with h6; injection h6 with h6; subst h6
            exact ⟨h.ext, y, h8, fun t ht hl => by rw [hρt t hl]; exact h9 t (by rw [h2, ht])⟩
end

/-- Of a region whose order is drawn. -/
def Asy (P : Program) (c : Ctx) (n : Nat) (ds : List Deferred) (S : Nat → Prop) (w0 : World) (l : List Oper) (k : List Item) (Q : Out → Act → World → Prop) (rest : List Oper) (s : Know) : Prop :=
  ∃ es, AsyF P n S w0 l.toArray (AsyT P c n ds S w0 l k Q) es rest s

theorem RunE.draw {P : Program} {c : Ctx} {n : Nat} {ds : List Deferred} {k : List Item} {Q : Out → Act → World → Prop} {env : Env} {w : World} {l : List Oper} {id : Nat} (S : Nat → Prop)
    (hmr : P.follows .mixedOrders = true) (h : ∀ w0, Ext w w0 → Asy P c n ds S w0 l k Q l (know0 env)) : RunE P c n ds (.code (.region id l.toArray true) :: k) Q env w := fun a ha => by
  refine order_run hmr fun t => ?_
  obtain ⟨es, hF⟩ := h _ ((ExtB.refl _ w).draw (w.drawn + 1) (Nat.le_succ _))
  obtain ⟨hm, hop, htail⟩ := asyF_all hF
  have hmu : (stN l es (know0 env) es.length).mu.reverse = es.map Ent.isMut := by
    rw [stN_mu es.length (Nat.le_refl _) hm, List.reverse_reverse, List.take_length]
  have hok : Okay l (es.map Ent.isMut) := chk_okay (by rw [← hmu]; exact htail.1)
  refine asy_go hok hop hm htail l.length t _ a _ ?_ ?_
  · have hn : ∀ j, ¬ Lst (Array.replicate l.length false) j := by
      intro j hj
      unfold Lst at hj
      simp only [Array.getD_eq_getD_getElem?, Array.getElem?_replicate] at hj
      split at hj <;> simp at hj
    refine ⟨by simp, ha.size, ha.defers, ExtB.refl _ _, fun j hj => (hn j hj).elim, fun j _ _ hj => (hn j hj).elim, fun j _ _ _ hj => (hn j hj).elim, fun j _ _ _ hj => (hn j hj).elim,
      .inl ⟨ExtB.refl _ _, fun j _ hj => (hn j hj).elim⟩, fun t v ht _ => ha.get t v ht, fun _ j _ _ _ hj => (hn j hj).elim⟩
  · refine Nat.le_trans List.count_le_length ?_
    simp
end Go.Rn
