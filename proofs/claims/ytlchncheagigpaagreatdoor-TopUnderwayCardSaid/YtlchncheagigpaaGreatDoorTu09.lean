/- Parts of this project: AsyW, StoF, LibJ, SortI, IterN, Defer, Recov, Pan, IterX, UndS, IterB, Close, OpenL, CloseT. -/
import Derived.Test.YtlchncheagigpaaGreatDoorTu02
import Derived.Test.YtlchncheagigpaaGreatDoorTu03
import Derived.Test.YtlchncheagigpaaGreatDoorTu04
import Derived.Shelf.SlSortCmp.NoneTotal
import Derived.Recover
import Derived.Test.YtlchncheagigpaaGreatDoorRows
import Derived.WalkKit
import Derived.ProofKit
import Derived.OpenShut
import Derived.Carry
import Derived.ChangeSame
import Derived.Test.YtlchncheagigpaaGreatDoorTie
import Derived.Test.YtlchncheagigpaaGreatDoorCards
import Derived.LaidMore
import Derived.Stop.Joined
import Derived.MakeChecks
import Derived.ChangeMaps5
set_option maxHeartbeats 32000000
set_option linter.unusedSimpArgs false
set_option linter.unusedVariables false
set_option linter.unusedSectionVars false
section
set_option maxRecDepth 4000
namespace Go.RnW
open Go.RowKit Go.Rn
structure RelOk (S : World → World → Prop) : Prop where
 refl : ∀ w, S w w
 trans : ∀ {a b c}, S a b → S b c → S a c
 of_ext : ∀ {a b}, Ext a b → S a b
def earChk (mu : List Bool) (E : List Nat) : List Oper → List Nat → Bool
 | [], _ => true
 | o :: rest, ms => (bif mu.getD ms.length false then E.all (fun i => (maskOf ms o).testBit i) else true) && earChk mu E rest (ms ++ [maskOf ms o])
theorem earChk_ok {ops : List Oper} {mu : List Bool} {E : List Nat} (h : earChk mu E ops [] = true) : ∀ i ∈ E, ∀ j, mu.getD j false = true → j < ops.length → Ord ops i j := by
 have key : ∀ (rest : List Oper) (ms : List Nat), ops.drop ms.length = rest → (∀ k i, (ms.getD k 0).testBit i = true → Ord ops i k) → earChk mu E rest ms = true →
   ∀ i ∈ E, ∀ j, ms.length ≤ j → mu.getD j false = true → j < ops.length → Ord ops i j := by
  intro rest
  induction rest with
  | nil =>
   intro ms hd hm hc i _ j hj _ hjl
   have := List.drop_eq_nil_iff.1 hd
   omega
  | cons a rest ih =>
   intro ms hd hm hc i hi j hj hmu hjl
   obtain ⟨h1, h2⟩ := drop_cons hd
   simp only [earChk, Bool.and_eq_true] at hc
   rcases Nat.lt_or_ge ms.length j with hlt | hge
   ·refine ih (ms ++ [maskOf ms a]) (by simpa using h2) ?_ hc.2 i hi j (by simp; omega) hmu hjl
    intro k i hki
    rcases Nat.lt_trichotomy k ms.length with hk | hk | hk
    ·refine hm k i ?_
     rw [List.getD_eq_getElem?_getD, List.getElem?_append_left hk, ← List.getD_eq_getElem?_getD] at hki
     exact hki
    ·subst hk
     rw [List.getD_eq_getElem?_getD, List.getElem?_append_right (Nat.le_refl _)] at hki
     simp only [Nat.sub_self, List.getElem?_cons_zero, Option.getD_some] at hki
     exact maskOf_ord h1 hm hki
    ·rw [List.getD_eq_getElem?_getD, List.getElem?_eq_none (by simp; omega)] at hki
     simp at hki
   ·have hj' : j = ms.length := by omega
    subst hj'
    have := hc.1
    rw [hmu, cond_true, List.all_eq_true] at this
    exact maskOf_ord h1 hm (this i hi)
 exact fun i hi j hm hj => key ops [] rfl (fun k i h => by simp at h) h i hi j (by simp) hm hj
def lastMut : List Bool → Option Nat
 | [] => none
 | true :: r => some r.length
 | false :: r => lastMut r
def namedO (l : List Oper) (j : Nat) (o : Oper) (t : Nat) : Prop := o.dst = none ∧ (∃ ty y, o.op = .store ty (.tmp t) y) ∧ ∃ (i : Nat) (x : Oper), i < j ∧ l[i]? = some x ∧ x.dst = some t
theorem look_store {ops : Array Oper} {o : Oper} {ty : TypeId} {t : Nat} {y : Operand} (h : o.op = .store ty (.tmp t) y) : t ∈ o.looksAt ops := by
 refine List.mem_append_left _ (List.mem_filterMap.2 ⟨.tmp t, ?_, rfl⟩)
 rw [h]; simp [Op.operands]
def PhOk (S : World → World → Prop) (w0 : World) (ops : Array Oper) (s : Know) (o : Oper) (w' : World) (ρ : Operand → Value) : Prop :=
 match s.ph with
 | none => Ext w0 w'
 | some (d, U) => S w0 w' ∧ ∃ x, U x w' ∧ ∀ t, d = some t → t ∈ o.looksAt ops → ρ (.tmp t) = x

def OpOk (P : Program) (n : Nat) (E : List Nat) (S : World → World → Prop) (w0 : World) (ops : Array Oper) (s : Know) (o : Oper) : Ent → Prop
 | .val v => dstOk n o.dst = true ∧ isSel o.op = false ∧ ((wantE ops.toList s.env o = some false ∧ v = undef) ∨
   (wantE ops.toList s.env o = some true ∧ isDefer o.op = false ∧
    ∀ w' ρ, (if E.contains s.mu.length = true then Ext w0 w' else S w0 w') → Goes ops s o w' ρ → ExecE P (execOp ρ o) w' (fun u w'' => u = v ∧ Ext w' w'') fun _ _ => False))
 | .sat V => dstOk n o.dst = true ∧ isSel o.op = false ∧ wantE ops.toList s.env o = some true ∧ isDefer o.op = false ∧
   (∀ v w' w'', S w0 w' → S w' w'' → V v w' → V v w'') ∧
   ∀ w' ρ, S w0 w' → Goes ops s o w' ρ → ExecE P (execOp ρ o) w' (fun u w'' => Ext w' w'' ∧ V u w'') fun _ _ => False
 | .wri V => dstOk n o.dst = true ∧ isSel o.op = false ∧ wantE ops.toList s.env o = some true ∧ isDefer o.op = false ∧
   (∀ v w' w'', S w0 w' → Ext w' w'' → V v w' → V v w'') ∧
   ∀ w' ρ, PhOk S w0 ops s o w' ρ → Goes ops s o w' ρ → (s.ph = none → ∀ d V, (d, V) ∈ s.pres → d ∈ o.looksAt ops → V (ρ (.tmp d)) w') → ExecE P (execOp ρ o) w' (fun u w'' => S w' w'' ∧ ∃ x, V x w'' ∧ (∀ t, o.dst = some t → u = x) ∧ ∀ ty t y, o.dst = none → o.op = .store ty (.tmp t) y → ρ (.tmp t) = x) fun _ _ => False
 | .pre V => dstOk n o.dst = true ∧ isSel o.op = false ∧ wantE ops.toList s.env o = some true ∧ isDefer o.op = false ∧
   (∀ v w' w'', S w0 w' → Ext w' w'' → V v w' → V v w'') ∧
   ∀ w' ρ, S w0 w' → Goes ops s o w' ρ → ExecE P (execOp ρ o) w' (fun u w'' => Ext w' w'' ∧ V u w'') fun _ _ => False

def AsyF (P : Program) (n : Nat) (E : List Nat) (S : World → World → Prop) (w0 : World) (ops : Array Oper) (T : Know → List Oper → Prop) : List Ent → List Oper → Know → Prop
 | [], rest, s => T s rest
 | e :: es, o :: rest, s => OpOk P n E S w0 ops s o e ∧ AsyF P n E S w0 ops T es rest (s.add o.dst e)
 | _ :: _, [], _ => False

theorem asyF_all {P : Program} {n : Nat} {E : List Nat} {S : World → World → Prop} {w0 : World} {ops : Array Oper} {T : Know → List Oper → Prop} {l : List Oper} {es : List Ent} {s0 : Know}
  (h : AsyF P n E S w0 ops T es l s0) : es.length ≤ l.length ∧ (∀ (i : Nat) o e, l[i]? = some o → es[i]? = some e → OpOk P n E S w0 ops (stN l es s0 i) o e) ∧ T (stN l es s0 es.length) (l.drop es.length) := by
 have key : ∀ k, k ≤ es.length → AsyF P n E S w0 ops T (es.drop k) (l.drop k) (stN l es s0 k) ∧ k ≤ l.length := by
  intro k
  induction k with
  | zero => intro _; exact ⟨h, Nat.zero_le _⟩
  | succ k ih =>
   intro hk
   obtain ⟨ih, hkl⟩ := ih (by omega)
   have he : es[k]? = some es[k] := List.getElem?_eq_getElem (by omega)
   rw [List.drop_eq_getElem_cons (by omega : k < es.length)] at ih
   rcases Nat.lt_or_ge k l.length with hl | hl
   ·rw [List.drop_eq_getElem_cons hl] at ih
    refine ⟨?_, hl⟩
    have := ih.2
    simp only [stN, List.getElem?_eq_getElem hl, he]
    exact this
   ·rw [List.drop_eq_nil_iff.2 hl] at ih
    exact ih.elim
 refine ⟨(key _ (Nat.le_refl _)).2, ?_, ?_⟩
 ·intro i o e ho he
  have hi : i < es.length := by
   rcases Nat.lt_or_ge i es.length with h | h
   ·exact h
   ·rw [List.getElem?_eq_none h] at he; simp at he
  have hl : i < l.length := by
   rcases Nat.lt_or_ge i l.length with h | h
   ·exact h
   ·rw [List.getElem?_eq_none h] at ho; simp at ho
  have := (key i (by omega)).1
  rw [List.drop_eq_getElem_cons hi, List.drop_eq_getElem_cons hl] at this
  rw [List.getElem?_eq_getElem hi] at he
  rw [List.getElem?_eq_getElem hl] at ho
  injection he with he; injection ho with ho
  subst he; subst ho
  exact this.1
 ·have := (key es.length (Nat.le_refl _)).1
  rw [List.drop_length] at this
  exact this

section
variable {P : Program} {c : Ctx} {n : Nat} {ds : List Deferred} {l : List Oper} {es : List Ent} {env : Env} {E : List Nat} {S : World → World → Prop} {w0 : World} {k : List Item} {Q : Out → Act → World → Prop}

abbrev Lst (listed : Array Bool) (j : Nat) : Prop := listed.getD j false = true

structure Inv (n : Nat) (ds : List Deferred) (l : List Oper) (es : List Ent) (env : Env) (S : World → World → Prop) (w0 : World) (listed : Array Bool) (a : Act) (w : World) : Prop where
 lsz : listed.size = l.length
 sz : a.tmps.size = n
 df : a.defers = ds
 ext : S w0 w
 lt : ∀ j, Lst listed j → j < es.length
 down : ∀ (j : Nat) (o : Oper) e, Lst listed j → l[j]? = some o → e ∈ o.after → Region.binds .any e = true → Lst listed e.on
 val : ∀ (j : Nat) (o : Oper) v t, Lst listed j → l[j]? = some o → es[j]? = some (.val v) → o.dst = some t → a.tmps[t]? = some v
 sat : ∀ (j : Nat) (o : Oper) V t, Lst listed j → l[j]? = some o → es[j]? = some (.sat V) → o.dst = some t → V (a.eval (.tmp t)) w
 wri : (Ext w0 w ∧ ∀ (j : Nat) e, Lst listed j → es[j]? = some e → e.isMut = false) ∨
  (∃ (j : Nat) (o : Oper) (U : Pred), Lst listed j ∧ l[j]? = some o ∧ es[j]? = some (.wri U) ∧ (∀ (i : Nat) e, Lst listed i → es[i]? = some e → e.isMut = true → i ≤ j) ∧
   ∃ x, U x w ∧ (∀ t, o.dst = some t → a.eval (.tmp t) = x) ∧ ∀ t, namedO l j o t → a.eval (.tmp t) = x)
 base : ∀ t v, env.get t = some v → (∀ (j : Nat) (o : Oper), Lst listed j → l[j]? = some o → o.dst ≠ some t) → a.tmps[t]? = some v
 pre : (∀ (j : Nat) e, Lst listed j → es[j]? = some e → e.isMut = false) → ∀ (j : Nat) (o : Oper) V t, Lst listed j → l[j]? = some o → es[j]? = some (.pre V) → o.dst = some t → V (a.eval (.tmp t)) w

theorem ord_listed {listed : Array Bool} (hdn : ∀ (j : Nat) (o : Oper) e, Lst listed j → l[j]? = some o → e ∈ o.after → Region.binds .any e = true → Lst listed e.on)
  {i j : Nat} (h : Ord l i j) : (∀ (o : Oper) e, l[j]? = some o → e ∈ o.after → Region.binds .any e = true → Lst listed e.on) → Lst listed i := by
 induction h with
 | edge ho he hb => intro hr; exact hr _ _ ho he hb
 | step ho he hb _ ih => intro hr; exact ih fun o e h1 h2 h3 => hdn _ _ _ (hr _ _ ho he hb) h1 h2 h3

theorem mu_getD {i : Nat} : ((es.map Ent.isMut).getD i false = true) ↔ ∃ e, es[i]? = some e ∧ e.isMut = true := by
 rw [List.getD_eq_getElem?_getD, List.getElem?_map]
 cases es[i]? <;> simp

theorem lst_set {listed : Array Bool} {i j : Nat} (hsz : i < listed.size) : Lst (listed.setIfInBounds i true) j ↔ (j = i ∨ Lst listed j) := by
 unfold Lst
 by_cases h : i = j
 ·subst h; simp [hsz]
 ·rw [getD_set_ne false h]
  exact ⟨.inr, fun hh => hh.resolve_left fun e => h e.symm⟩

theorem eval_put_ne (a : Act) {d : Option Nat} {t : Nat} (v : Value) (h : d ≠ some t) : (a.put d v).eval (.tmp t) = a.eval (.tmp t) :=
 Act.eval_put fun d' hd e => h (by rw [hd]; injection e with e; rw [e])
theorem tmps_put_ne (a : Act) {d : Option Nat} {t : Nat} (v : Value) (h : d ≠ some t) : (a.put d v).tmps[t]? = a.tmps[t]? := by
 cases d with
 | none => rfl
 | some d => simp [Act.put, Array.getElem?_setIfInBounds_ne (fun e => h (by rw [e]) : d ≠ t)]

variable (hok : Okay l (es.map Ent.isMut)) (hop : ∀ (i : Nat) o e, l[i]? = some o → es[i]? = some e → OpOk P n E S w0 l.toArray (stN l es (know0 env) i) o e) (hm : es.length ≤ l.length)
include hok hm

theorem wri_lt {listed : Array Bool} {a : Act} {w : World} (h : Inv n ds l es env S w0 listed a w) {i j : Nat} {e e' : Ent} (hi : es[i]? = some e) (hmi : e.isMut = true)
  (hun : ¬ Lst listed i) (hj : Lst listed j) (hej : es[j]? = some e') (hmj : e'.isMut = true) : j < i := by
 rcases Nat.lt_trichotomy j i with hlt | heq | hgt
 ·exact hlt
 ·subst heq; exact absurd hj hun
 ·exfalso
  have hi' : i < l.length := by
   have : i < es.length := by
    rcases Nat.lt_or_ge i es.length with h | h
    ·exact h
    ·rw [List.getElem?_eq_none h] at hi; simp at hi
   omega
  have hj' : j < l.length := by have := h.lt j hj; omega
  rcases hok.pair i j l[i] l[j] hgt (List.getElem?_eq_getElem hi') (List.getElem?_eq_getElem hj') with ho | ⟨-, -, hn⟩
  ·exact hun (ord_listed h.down ho fun o e h1 h2 h3 => h.down j o e hj h1 h2 h3)
  ·exact hn ⟨mu_getD.2 ⟨_, hi, hmi⟩, mu_getD.2 ⟨_, hej, hmj⟩⟩

include hop

theorem Inv.next (hS : RelOk S) {listed : Array Bool} {a : Act} {w : World} (h : Inv n ds l es env S w0 listed a w) {i : Nat} {o : Oper} {e : Ent} (hi : l[i]? = some o) (he : es[i]? = some e)
  (hun : ¬ Lst listed i) (hr : ∀ e ∈ o.after, Region.binds .any e = true → Lst listed e.on) {v : Value} {w' : World} (hx : S w w') (hx' : e.isMut = false → Ext w w')
  (hv : e.isMut = false → e.Holds v w') (hvm : e.isMut = true → ∃ x, e.Holds x w' ∧ (∀ t, o.dst = some t → v = x) ∧ ∀ t, namedO l i o t → a.eval (.tmp t) = x) : Inv n ds l es env S w0 (listed.setIfInBounds i true) (a.put o.dst v) w' := by
 have hie : i < es.length := by
  rcases Nat.lt_or_ge i es.length with h | h
  ·exact h
  ·rw [List.getElem?_eq_none h] at he; simp at he
 have hil : i < listed.size := by rw [h.lsz]; omega
 have hdst : ∀ (j : Nat) (x : Oper), j ≠ i → j < es.length → l[j]? = some x → ∀ d, x.dst = some d → o.dst ≠ some d := by
  intro j x hne hj hx d hd
  rcases Nat.lt_or_gt_of_ne hne with hlt | hgt
  ·exact hok.dst j i x o hlt (by simpa using hie) hx hi d hd
  ·intro hod; exact hok.dst i j o x hgt (by simpa using hj) hi hx d hod hd
 have hdk : dstOk n o.dst = true := by
  have := hop i o e hi he
  cases e <;> exact this.1
 have hput : ∀ t, o.dst = some t → (a.put o.dst v).tmps[t]? = some v := by
  intro t ht
  have := dstOk_lt hdk t ht
  rw [ht]
  simp [Act.put, h.sz, this]
 have hputE : ∀ t, o.dst = some t → (a.put o.dst v).eval (.tmp t) = v := by
  intro t ht; simp [Act.eval, hput t ht]
 refine ⟨by simp [h.lsz], ?_, ?_, hS.trans h.ext hx, ?_, ?_, ?_, ?_, ?_, ?_, ?_⟩
 ·cases o.dst <;> simp [Act.put, h.sz]
 ·cases o.dst <;> exact h.df
 ·intro j hj
  rcases (lst_set hil).1 hj with rfl | hj
  ·exact hie
  ·exact h.lt j hj
 ·intro j x ed hj hx hed hb
  rcases (lst_set hil).1 hj with rfl | hj
  ·rw [hi] at hx; injection hx with hx; subst hx
   exact (lst_set hil).2 (.inr (hr ed hed hb))
  ·exact (lst_set hil).2 (.inr (h.down j x ed hj hx hed hb))
 ·intro j x u t hj hx hu ht
  rcases (lst_set hil).1 hj with rfl | hj
  ·rw [hi] at hx; injection hx with hx; subst hx
   rw [he] at hu; injection hu with hu; subst hu
   have hv : v = u := hv rfl
   subst hv; exact hput t ht
  ·have hne : j ≠ i := fun e => hun (e ▸ hj)
   rw [tmps_put_ne a v (hdst j x hne (h.lt j hj) hx t ht)]
   exact h.val j x u t hj hx hu ht
 ·intro j x V t hj hx' hu ht
  rcases (lst_set hil).1 hj with rfl | hj
  ·rw [hi] at hx'; injection hx' with hx'; subst hx'
   rw [he] at hu; injection hu with hu; subst hu
   rw [hputE t ht]; exact hv rfl
  ·have hne : j ≠ i := fun e => hun (e ▸ hj)
   rw [eval_put_ne a v (hdst j x hne (h.lt j hj) hx' t ht)]
   exact (hop j x _ hx' hu).2.2.2.2.1 _ _ _ h.ext hx (h.sat j x V t hj hx' hu ht)
 ·cases hmu : e.isMut with
  | true =>
   right
   obtain ⟨V, rfl⟩ : ∃ V, e = .wri V := by cases e <;> simp_all [Ent.isMut]
   obtain ⟨x, hx1, hx2, hx3⟩ := hvm rfl
   refine ⟨i, o, V, (lst_set hil).2 (.inl rfl), hi, he, ?_, x, hx1, fun t ht => (hputE t ht).trans (hx2 t ht), fun t ht => ?_⟩
   ·intro j e' hj he' hm'
    rcases (lst_set hil).1 hj with rfl | hj
    ·exact Nat.le_refl _
    ·exact Nat.le_of_lt (wri_lt hok hm h he rfl hun hj he' hm')
   ·rw [eval_put_ne a v (by rw [ht.1]; simp)]
    exact hx3 t ht
  | false =>
   have hE := hx' hmu
   rcases h.wri with ⟨h1, h2⟩ | ⟨j, x, U, hj, h1, h2, h3, y, h4, h5, h6⟩
   ·left
    refine ⟨h1.trans hE, fun j e' hj he' => ?_⟩
    rcases (lst_set hil).1 hj with rfl | hj
    ·rw [he] at he'; injection he' with he'; subst he'; exact hmu
    ·exact h2 j e' hj he'
   ·right
    have hne : j ≠ i := fun e => hun (e ▸ hj)
    refine ⟨j, x, U, (lst_set hil).2 (.inr hj), h1, h2, ?_, y, ?_, ?_, ?_⟩
    ·intro i' e' hi' he' hm'
     rcases (lst_set hil).1 hi' with rfl | hi'
     ·rw [he] at he'; injection he' with he'; subst he'; rw [hmu] at hm'; simp at hm'
     ·exact h3 i' e' hi' he' hm'
    ·exact (hop j x _ h1 h2).2.2.2.2.1 _ _ _ h.ext hE h4
    ·intro t ht
     rw [eval_put_ne a v (hdst j x hne (h.lt j hj) h1 t ht)]
     exact h5 t ht
    ·intro t ht
     obtain ⟨q1, ⟨ty, yy, q2⟩, m, z, q3, q4, q5⟩ := ht
     have hlk : t ∈ x.looksAt l.toArray := look_store q2
     have hml : m < es.length := by have := h.lt j hj; omega
     have hmi : m ≠ i := by
      intro e'
      subst e'
      rcases hok.pair m j z x q3 q4 h1 with ho | ⟨-, ha, -⟩
      ·exact hun (ord_listed h.down ho fun o e h1 h2 h3 => h.down j o e hj h1 h2 h3)
      ·exact (Oper.apart_spec ha).1 t q5 hlk
     rw [eval_put_ne a v (hdst m z hmi hml q4 t q5)]
     exact h6 t ⟨q1, ⟨ty, yy, q2⟩, m, z, q3, q4, q5⟩
 ·intro t u ht hall
  have hne : o.dst ≠ some t := hall i o ((lst_set hil).2 (.inl rfl)) hi
  rw [tmps_put_ne a v hne]
  exact h.base t u ht fun j x hj hx => hall j x ((lst_set hil).2 (.inr hj)) hx
 ·intro hno j x V t hj hxj hu ht
  have hmu : e.isMut = false := hno i e ((lst_set hil).2 (.inl rfl)) he
  have hE := hx' hmu
  rcases (lst_set hil).1 hj with rfl | hj
  ·rw [hi] at hxj; injection hxj with hxj; subst hxj
   rw [he] at hu; injection hu with hu; subst hu
   rw [hputE t ht]; exact hv rfl
  ·have hne : j ≠ i := fun e => hun (e ▸ hj)
   rw [eval_put_ne a v (hdst j x hne (h.lt j hj) hxj t ht)]
   exact (hop j x _ hxj hu).2.2.2.2.1 _ _ _ h.ext hE (h.pre (fun j' e' hj' he' => hno j' e' ((lst_set hil).2 (.inr hj')) he') j x V t hj hxj hu ht)

omit hop hm in
theorem Inv.read {listed : Array Bool} {a : Act} {w : World} (h : Inv n ds l es env S w0 listed a w) {i : Nat} {o : Oper} (hi : l[i]? = some o) (hie : i < es.length)
  (hun : ¬ Lst listed i) (hr : ∀ e ∈ o.after, Region.binds .any e = true → Lst listed e.on) {t : Nat} (ht : t ∈ o.looksAt l.toArray) {v : Value}
  (hv : (stN l es (know0 env) i).env.get t = some v) : a.tmps[t]? = some v := by
 have rdy : ∀ j, Ord l j i → Lst listed j := fun j hj => ord_listed h.down hj fun o' e h1 h2 h3 => by
  rw [hi] at h1; injection h1 with h1; subst h1; exact hr e h2 h3
 rcases stN_env (fun i j x o hij hj hx ho d => hok.dst i j x o hij (by simpa using hj) hx ho d) i (by omega) t v hv with ⟨j, x, hj, h1, h2, h3⟩ | ⟨h1, h2⟩
 ·rcases hok.pair j i x o hj h1 hi with ho | ⟨-, ha, -⟩
  ·exact h.val j x v t (rdy j ho) h1 h3 h2
  ·exact absurd ht ((Oper.apart_spec ha).1 t h2)
 ·refine h.base t v h2 fun j x hj hx hd => ?_
  rcases Nat.lt_trichotomy j i with hlt | heq | hgt
  ·exact h1 j x hlt hx hd
  ·subst heq; exact hun hj
  ·rcases hok.pair i j o x hgt hi hx with ho | ⟨-, ha, -⟩
   ·exact hun (ord_listed h.down ho fun o e h1 h2 h3 => h.down j o e hj h1 h2 h3)
   ·exact (Oper.apart_spec ha).2.2 t hd ht

omit hop hm in
theorem Inv.readS {listed : Array Bool} {a : Act} {w : World} (h : Inv n ds l es env S w0 listed a w) {i : Nat} {o : Oper} (hi : l[i]? = some o) (hie : i < es.length)
  (hr : ∀ e ∈ o.after, Region.binds .any e = true → Lst listed e.on) {d : Nat} (ht : d ∈ o.looksAt l.toArray) {V : Pred}
  (hv : (d, V) ∈ (stN l es (know0 env) i).sats) : V (a.eval (.tmp d)) w := by
 obtain ⟨j, x, hj, h1, h2, h3⟩ := stN_sats i (by omega) d V hv
 have rdy : ∀ j, Ord l j i → Lst listed j := fun j hj => ord_listed h.down hj fun o' e h1 h2 h3 => by
  rw [hi] at h1; injection h1 with h1; subst h1; exact hr e h2 h3
 rcases hok.pair j i x o hj h1 hi with ho | ⟨-, ha, -⟩
 ·exact h.sat j x V d (rdy j ho) h1 h3 h2
 ·exact absurd ht ((Oper.apart_spec ha).1 d h2)

omit hop hm in
theorem Inv.readP {listed : Array Bool} {a : Act} {w : World} (h : Inv n ds l es env S w0 listed a w) {i : Nat} {o : Oper} (hi : l[i]? = some o) (hie : i < es.length)
  (hr : ∀ e ∈ o.after, Region.binds .any e = true → Lst listed e.on) (hno : ∀ (j : Nat) e, Lst listed j → es[j]? = some e → e.isMut = false) {d : Nat} (ht : d ∈ o.looksAt l.toArray) {V : Pred}
  (hv : (d, V) ∈ (stN l es (know0 env) i).pres) : V (a.eval (.tmp d)) w := by
 obtain ⟨j, x, hj, h1, h2, h3⟩ := stN_pres i (by omega) d V hv
 have rdy : ∀ j, Ord l j i → Lst listed j := fun j hj => ord_listed h.down hj fun o' e h1 h2 h3 => by
  rw [hi] at h1; injection h1 with h1; subst h1; exact hr e h2 h3
 rcases hok.pair j i x o hj h1 hi with ho | ⟨-, ha, -⟩
 ·exact h.pre hno j x V d (rdy j ho) h1 h3 h2
 ·exact absurd ht ((Oper.apart_spec ha).1 d h2)

def tailEnv (s : Know) (xs : Nat → Value) : Env :=
 s.sats.map (fun e => (e.1, xs e.1)) ++ ((match s.ph with | some (some t, _) => [(t, xs t)] | _ => []) ++ s.env)

omit hok hop hm in
theorem order_run (hmr : P.follows .mixedOrders = true) {x : Nat} {a : Act} (h : ∀ t, Run P c (.inRegion l.toArray (Region.linearise.go .any l.toArray l.length t (Array.replicate l.length false) []) :: k) Q a { w0 with drawn := w0.drawn + 1 }) :
  Run P c (.code (.region x l.toArray true) :: k) Q a w0 := by
 refine .regionDraw fun t => ?_
 simp only [Region.schedule, hmr, Bool.true_or, if_true, Region.linearise, List.size_toArray]
 exact h t

omit hop hm in
theorem tail_order {fuel t : Nat} {listed : Array Bool} {j : Nat} (hsz : listed.size = l.length) (hl : ∀ i, Lst listed i ↔ i < j) (hj : es.length ≤ j) (hjl : j ≤ l.length) (hf : l.length ≤ j + fuel) :
  Region.linearise.go .any l.toArray fuel t listed [] = List.range' j (l.length - j) := by
 induction fuel generalizing t listed j with
 | zero => rw [show l.length - j = 0 by omega]; rfl
 | succ fuel ih =>
  simp only [Region.linearise.go]
  change (match (Region.ready .any l.toArray listed)[t % (Region.ready .any l.toArray listed).length]? with
   | some i => Region.linearise.go .any l.toArray fuel (t / (Region.ready .any l.toArray listed).length) (listed.setIfInBounds i true) [i]
   | none => [].reverse) = _
  have only : ∀ i, i ∈ Region.ready .any l.toArray listed → i = j := by
   intro i hi
   obtain ⟨h0, o, ho, hr⟩ := mem_ready.1 hi
   have ho' : l[i]? = some o := by simpa using ho
   have hil : i < l.length := by
    rcases Nat.lt_or_ge i l.length with h | h
    ·exact h
    ·rw [List.getElem?_eq_none h] at ho'; simp at ho'
   have hge : j ≤ i := by
    rcases Nat.lt_or_ge i j with h | h
    ·have h1 := (hl i).2 h
     unfold Lst at h1
     have h2 : i < listed.size := by omega
     simp [h2] at h0 h1
     rw [h0] at h1; simp at h1
    ·exact h
   rcases Nat.lt_or_eq_of_le hge with hlt | heq
   ·exfalso
    rcases hok.pair j i l[j] o hlt (List.getElem?_eq_getElem (by omega)) ho' with h | ⟨h, -⟩
    ·have : Lst listed j := by
      have hback : ∀ a b, Ord l a b → a < b := by
       intro a b hab
       induction hab with
       | edge ho he hb => exact hok.back _ _ ho _ he hb
       | step ho he hb _ ih => exact Nat.lt_trans ih (hok.back _ _ ho _ he hb)
      cases h with
      | edge ho2 he hb =>
       rw [ho'] at ho2; injection ho2 with ho2; subst ho2
       exact hr _ he hb
      | step ho2 he hb h =>
       rw [ho'] at ho2; injection ho2 with ho2; subst ho2
       have h1 := (hl _).1 (hr _ he hb)
       have h2 := hback _ _ h
       omega
     have := (hl j).1 this
     omega
    ·simp at h; omega
   ·exact heq.symm
  rcases Nat.lt_or_ge j l.length with hlt | hge
  ·have hjr : j ∈ Region.ready .any l.toArray listed := by
    refine mem_ready.2 ⟨?_, l[j], by simp [hlt], fun e he hb => (hl _).2 ?_⟩
    ·have h1 : ¬ Lst listed j := fun h => by have := (hl j).1 h; omega
     unfold Lst at h1
     have h2 : j < listed.size := by omega
     simp [h2] at h1 ⊢
     exact h1
    ·exact hok.back j l[j] (List.getElem?_eq_getElem hlt) e he hb
   have hpos : 0 < (Region.ready .any l.toArray listed).length := List.length_pos_of_mem hjr
   have hget : (Region.ready .any l.toArray listed)[t % (Region.ready .any l.toArray listed).length]? = some j := by
    have hlt' := Nat.mod_lt t hpos
    rw [List.getElem?_eq_getElem hlt']
    rw [only _ (List.getElem_mem hlt')]
   rw [hget]
   simp only
   rw [linearise_go_acc, List.reverse_singleton, List.singleton_append, ih (by simp [hsz]) (j := j + 1) ?_ (by omega) (by omega) (by omega)]
   ·rw [show l.length - j = (l.length - (j + 1)) + 1 by omega, List.range'_succ]
   ·intro i
    rw [lst_set (by omega), hl]
    omega
  ·have hnil : Region.ready .any l.toArray listed = [] := by
    cases hr : Region.ready .any l.toArray listed with
    | nil => rfl
    | cons x xs =>
     have hx : x ∈ Region.ready .any l.toArray listed := by rw [hr]; exact List.mem_cons_self
     have := only x hx
     subst this
     obtain ⟨-, o, ho, -⟩ := mem_ready.1 hx
     have ho' : l[x]? = some o := by simpa using ho
     rw [List.getElem?_eq_none hge] at ho'; simp at ho'
   rw [hnil, show l.length - j = 0 by omega]
   rfl

def AsyT (P : Program) (c : Ctx) (n : Nat) (ds : List Deferred) (E : List Nat) (S : World → World → Prop) (w0 : World) (l : List Oper) (k : List Item) (Q : Out → Act → World → Prop) (s : Know) (rest : List Oper) : Prop :=
 chk l s.mu.reverse l [] = true ∧ earChk s.mu.reverse E l [] = true ∧ ∀ w' (xs : Nat → Value), S w0 w' → (∀ d V, (d, V) ∈ s.sats → V (xs d) w') →
  (match s.ph with | none => Ext w0 w' | some (d, U) => ∃ x, U x w' ∧ (∀ t, d = some t → xs t = x) ∧ ∀ j o t, lastMut s.mu = some j → l[j]? = some o → namedO l j o t → xs t = x) → RunL P c n ds l.toArray rest k Q (tailEnv s xs) w'

omit hok hop hm in
theorem lastMut_spec : ∀ {m : List Bool} {j : Nat}, lastMut m.reverse = some j → j < m.length ∧ m.getD j false = true ∧ ∀ i, j < i → i < m.length → m.getD i false = false := by
 intro m
 induction hl : m.length generalizing m with
 | zero =>
  intro j h
  have : m = [] := List.length_eq_zero_iff.1 hl
  subst this; simp [lastMut] at h
 | succ q ih =>
  intro j h
  rcases List.eq_nil_or_concat m with rfl | ⟨m', b, rfl⟩
  ·simp at hl
  rw [List.concat_eq_append] at *
  have hl' : m'.length = q := by simpa using hl
  rw [List.reverse_append] at h
  cases b with
  | true =>
   simp only [List.reverse_singleton, List.singleton_append, lastMut, List.length_reverse, Option.some.injEq] at h
   subst h
   refine ⟨by omega, by simp, fun i h1 h2 => by omega⟩
  | false =>
   simp only [List.reverse_singleton, List.singleton_append, lastMut] at h
   obtain ⟨h1, h2, h3⟩ := ih hl' h
   refine ⟨by omega, ?_, fun i h4 h5 => ?_⟩
   ·rw [List.getD_eq_getElem?_getD, List.getElem?_append_left (by omega), ← List.getD_eq_getElem?_getD]; exact h2
   ·rcases Nat.lt_or_ge i m'.length with h6 | h6
    ·rw [List.getD_eq_getElem?_getD, List.getElem?_append_left h6, ← List.getD_eq_getElem?_getD]; exact h3 i h4 (by omega)
    ·have : i = m'.length := by omega
     subst this; simp
theorem asy_end (htail : AsyT P c n ds E S w0 l k Q (stN l es (know0 env) es.length) (l.drop es.length)) {fuel t : Nat} {listed : Array Bool} {a : Act} {w : World}
  (h : Inv n ds l es env S w0 listed a w) (hc : listed.toList.count false ≤ fuel) (hall : ∀ i, i < es.length → Lst listed i) :
   Run P c (.inRegion l.toArray (Region.linearise.go .any l.toArray fuel t listed []) :: k) Q a w := by
 have hl : ∀ i, Lst listed i ↔ i < es.length := fun i => ⟨h.lt i, hall i⟩
 have hfuel : l.length ≤ es.length + fuel := by
  have h1 : (listed.toList.drop es.length).count false = (listed.toList.drop es.length).length := by
   rw [List.count_eq_length]
   intro b hb
   obtain ⟨i, hi, rfl⟩ := List.getElem_of_mem hb
   have hn : ¬ Lst listed (es.length + i) := fun hh => by have := (hl _).1 hh; omega
   simp only [List.getElem_drop, Array.getElem_toList]
   unfold Lst at hn
   simp only [List.length_drop, Array.length_toList] at hi
   have h2 : es.length + i < listed.size := by omega
   simp only [Array.getD_eq_getD_getElem?, Array.getElem?_eq_getElem h2, Option.getD_some] at hn
   simpa using hn
  have h2 : (listed.toList.drop es.length).count false ≤ listed.toList.count false := (List.drop_sublist _ _).count_le _
  have h3 : (listed.toList.drop es.length).length = l.length - es.length := by simp [h.lsz]
  omega
 rw [tail_order hok (by exact h.lsz) hl (Nat.le_refl _) hm hfuel]
 have hdst : ∀ (i j : Nat) (x o : Oper), i < j → j < es.length → l[i]? = some x → l[j]? = some o → ∀ d, x.dst = some d → o.dst ≠ some d := fun i j x o hij hj hx ho d => hok.dst i j x o hij (by simpa using hj) hx ho d
 have hlt : ∀ (j : Nat) (o : Oper) e, l[j]? = some o → es[j]? = some e → ∀ t, o.dst = some t → t < n := by
  intro j o e ho he
  have := hop j o e ho he
  have hk : dstOk n o.dst = true := by cases e <;> exact this.1
  exact dstOk_lt hk
 have hcell : ∀ t, t < n → a.tmps[t]? = some (a.eval (.tmp t)) := by
  intro t ht
  have : t < a.tmps.size := by rw [h.sz]; exact ht
  simp [Act.eval, Array.getElem?_eq_getElem this]
 have hlen : ∀ {j : Nat} {e : Ent}, es[j]? = some e → j < es.length := by
  intro j e he
  rcases Nat.lt_or_ge j es.length with h | h
  ·exact h
  ·rw [List.getElem?_eq_none h] at he; simp at he
 have hph := stN_ph (l := l) (es := es) (env := env) es.length (Nat.le_refl _) hm
 have := htail.2.2 w (fun t => a.eval (.tmp t)) h.ext (fun d V hd => by
   obtain ⟨j, o, hj, h1, h2, h3⟩ := stN_sats es.length (Nat.le_refl _) d V hd
   exact h.sat j o V d (hall j hj) h1 h3 h2) (by
   cases hp : (stN l es (know0 env) es.length).ph with
   | none =>
    rw [hp] at hph
    simp only at hph ⊢
    rcases h.wri with ⟨h1, -⟩ | ⟨j, o, U, hj, -, h2, -⟩
    ·exact h1
    ·have := hph j _ (h.lt j hj) h2; simp [Ent.isMut] at this
   | some x =>
    obtain ⟨d, U⟩ := x
    rw [hp] at hph
    simp only at hph ⊢
    obtain ⟨j, o, hj, h1, h2, h3, h4⟩ := hph
    rcases h.wri with ⟨-, h5⟩ | ⟨i, o', U', hi, h5, h6, h7, y, h8, h9, h9'⟩
    ·have := h5 j _ (hall j hj) h3; simp [Ent.isMut] at this
    ·have hij : i = j := by
      have h10 := h7 j _ (hall j hj) h3 rfl
      rcases Nat.lt_or_eq_of_le h10 with hlt | heq
      ·have := h4 i _ hlt (h.lt i hi) h6; simp [Ent.isMut] at this
      ·exact heq.symm
     subst hij
     rw [h1] at h5; injection h5 with h5; subst h5
     rw [h3] at h6; injection h6 with h6; injection h6 with h6; subst h6
     refine ⟨y, h8, fun t ht => h9 t (by rw [h2, ht]), fun j' o'' t' hj' ho'' hn => ?_⟩
     have hji : j' = i := by
      rw [stN_mu es.length (Nat.le_refl _) hm, List.take_length] at hj'
      obtain ⟨g1, g2, g3⟩ := lastMut_spec hj'
      rw [List.length_map] at g1
      obtain ⟨e', g4, g5⟩ := mu_getD.1 g2
      rcases Nat.lt_trichotomy j' i with hlt | heq | hgt
      ·have := g3 i hlt (by rw [List.length_map]; exact hlen h3)
       rw [mu_getD.2 ⟨_, h3, rfl⟩] at this; simp at this
      ·exact heq
      ·have := h4 j' _ hgt (by exact g1) g4; rw [g5] at this; simp at this
     subst hji
     rw [h1] at ho''; injection ho'' with ho''; subst ho''
     exact h9' t' hn)
 have hrun := this es.length (by simp) a ⟨h.sz, h.df, ?_⟩
 ·rw [List.length_drop] at hrun; exact hrun
 ·intro t v ht
  unfold tailEnv at ht
  have app : ∀ (A B : Env) (t : Nat) (v : Value), Env.get (A ++ B) t = some v → (t, v) ∈ A ∨ Env.get B t = some v := by
   intro A
   induction A with
   | nil => intro B t v h; exact .inr h
   | cons e r ih =>
    intro B t v h
    obtain ⟨kk, u⟩ := e
    by_cases hk : kk = t
    ·subst hk
     rw [List.cons_append, Env.get_cons_same] at h
     injection h with h; subst h; exact .inl List.mem_cons_self
    ·rw [List.cons_append, Env.get_cons_ne hk] at h
     rcases ih B t v h with h | h
     ·exact .inl (List.mem_cons_of_mem _ h)
     ·exact .inr h
  rcases app _ _ _ _ ht with ht | ht
  ·obtain ⟨⟨d, V⟩, hd, he⟩ := List.mem_map.1 ht
   simp only at he
   injection he with h1 h2; subst h1; subst h2
   obtain ⟨j, o, hj, h1, h2, h3⟩ := stN_sats es.length (Nat.le_refl _) d V hd
   exact hcell d (hlt j o _ h1 h3 d h2)
  ·rcases app _ _ _ _ ht with ht | ht
   ·cases hp : (stN l es (know0 env) es.length).ph with
    | none => rw [hp] at ht; simp at ht
    | some x =>
     obtain ⟨d, U⟩ := x
     rw [hp] at ht hph
     cases d with
     | none => simp at ht
     | some d =>
      simp only [List.mem_singleton] at ht
      injection ht with h1 h2; subst h1; subst h2
      obtain ⟨j, o, hj, h1, h2, h3, -⟩ := hph
      exact hcell _ (hlt j o _ h1 h3 _ h2)
   ·rcases stN_env hdst es.length (Nat.le_refl _) t v ht with ⟨j, o, hj, h1, h2, h3⟩ | ⟨h1, h2⟩
    ·exact h.val j o v t (hall j hj) h1 h3 h2
    ·exact h.base t v h2 fun j o hj hx => h1 j o (h.lt j hj) hx

theorem asy_go (hS : RelOk S) (hear : ∀ i ∈ E, ∀ j, (es.map Ent.isMut).getD j false = true → j < l.length → Ord l i j) (htail : AsyT P c n ds E S w0 l k Q (stN l es (know0 env) es.length) (l.drop es.length)) :
  ∀ (fuel t : Nat) (listed : Array Bool) (a : Act) (w : World), Inv n ds l es env S w0 listed a w → listed.toList.count false ≤ fuel →
   Run P c (.inRegion l.toArray (Region.linearise.go .any l.toArray fuel t listed []) :: k) Q a w := by
 intro fuel
 induction fuel with
 | zero =>
  intro t listed a w h hc
  refine asy_end hok hop hm htail h hc fun i hi => ?_
  unfold Lst
  have h2 : i < listed.size := by rw [h.lsz]; omega
  simp only [Array.getD_eq_getD_getElem?, Array.getElem?_eq_getElem h2, Option.getD_some]
  cases hb : listed[i] with
  | true => rfl
  | false =>
   have : false ∈ listed.toList := by rw [← hb]; simp
   have := List.count_pos_iff.2 this
   omega
 | succ fuel ih =>
  intro t listed a w h hc
  by_cases hall : ∀ i, i < es.length → Lst listed i
  ·exact asy_end hok hop hm htail h hc hall
  ·-- the least one that is not listed may come next
   have hex : ∃ i, i < es.length ∧ ¬ Lst listed i := by
    refine Classical.byContradiction fun hn => hall fun i hi => Classical.byContradiction fun hc => hn ⟨i, hi, hc⟩
   have unl : ∀ i, i < es.length → ¬ Lst listed i → listed.getD i true = false := by
    intro i hi hn
    have h2 : i < listed.size := by rw [h.lsz]; omega
    unfold Lst at hn
    simp only [Array.getD_eq_getD_getElem?, Array.getElem?_eq_getElem h2, Option.getD_some] at hn ⊢
    simpa using hn
   obtain ⟨i0, hi0, hmin⟩ : ∃ i, (i < es.length ∧ ¬ Lst listed i) ∧ ∀ j, j < i → Lst listed j := by
    obtain ⟨i, hi, hn⟩ := hex
    induction i using Nat.strongRecOn with
    | ind i ihi =>
     by_cases hq : ∀ j, j < i → Lst listed j
     ·exact ⟨i, ⟨hi, hn⟩, hq⟩
     ·obtain ⟨j, hj, hnj⟩ : ∃ j, j < i ∧ ¬ Lst listed j := Classical.byContradiction fun hn' => hq fun j hj => Classical.byContradiction fun hc => hn' ⟨j, hj, hc⟩
      exact ihi j hj (by omega) hnj
   have hr0 : i0 ∈ Region.ready .any l.toArray listed := by
    have hil : i0 < l.length := by omega
    refine mem_ready.2 ⟨unl i0 hi0.1 hi0.2, l[i0], by simp [hil], fun e he hb => hmin _ ?_⟩
    exact hok.back i0 l[i0] (List.getElem?_eq_getElem hil) e he hb
   simp only [Region.linearise.go]
   change Run P c (.inRegion l.toArray (match (Region.ready .any l.toArray listed)[t % (Region.ready .any l.toArray listed).length]? with
    | some i => Region.linearise.go .any l.toArray fuel (t / (Region.ready .any l.toArray listed).length) (listed.setIfInBounds i true) [i]
    | none => [].reverse) :: k) Q a w
   have hpos : 0 < (Region.ready .any l.toArray listed).length := List.length_pos_of_mem hr0
   have hlt' := Nat.mod_lt t hpos
   rw [List.getElem?_eq_getElem hlt']
   have hi := List.getElem_mem hlt'
   generalize (Region.ready .any l.toArray listed)[t % (Region.ready .any l.toArray listed).length] = i at hi ⊢
   simp only
   rw [linearise_go_acc, List.reverse_singleton, List.singleton_append]
   obtain ⟨h0, o, ho, hr⟩ := mem_ready.1 hi
   have ho' : l[i]? = some o := by simpa using ho
   have hil : i < l.length := by
    rcases Nat.lt_or_ge i l.length with h | h
    ·exact h
    ·rw [List.getElem?_eq_none h] at ho'; simp at ho'
   have hsz : i < listed.size := by rw [h.lsz]; exact hil
   have hun : ¬ Lst listed i := by
    unfold Lst
    simp only [Array.getD_eq_getD_getElem?, Array.getElem?_eq_getElem hsz, Option.getD_some] at h0 ⊢
    rw [h0]; simp
   have hie : i < es.length := by
    rcases Nat.lt_or_ge i es.length with h' | h'
    ·exact h'
    ·exfalso
     have hlt : i0 < i := by omega
     rcases hok.pair i0 i l[i0] o hlt (List.getElem?_eq_getElem (by omega)) ho' with h1 | ⟨h1, -⟩
     ·exact hi0.2 (ord_listed h.down h1 fun o' e h2 h3 h4 => by
       rw [ho'] at h2; injection h2 with h2; subst h2; exact hr e h3 h4)
     ·simp at h1; omega
   have he : es[i]? = some es[i] := List.getElem?_eq_getElem hie
   have hO := hop i o _ ho' he
   have hcount : (listed.setIfInBounds i true).toList.count false ≤ fuel := by
    have h1 : listed[i] = false := by
     simpa only [Array.getD_eq_getD_getElem?, Array.getElem?_eq_getElem hsz, Option.getD_some] using h0
    rw [Array.toList_setIfInBounds, List.count_set (by simpa using hsz)]
    simp only [Array.getElem_toList, h1]
    simp only [beq_self_eq_true, if_true]
    rw [if_neg (by decide)]
    omega
   have step : ∀ {v : Value} {w' : World}, S w w' → (es[i].isMut = false → Ext w w') → (es[i].isMut = false → es[i].Holds v w') → (es[i].isMut = true → ∃ x, es[i].Holds x w' ∧ (∀ t, o.dst = some t → v = x) ∧ ∀ t, namedO l i o t → a.eval (.tmp t) = x) →
     Run P c (.inRegion l.toArray (Region.linearise.go .any l.toArray fuel (t / (Region.ready .any l.toArray listed).length) (listed.setIfInBounds i true) []) :: k) Q (a.put o.dst v) w' :=
    fun hx hx' hv hvm => ih _ _ _ _ (h.next hok hop hm hS ho' he hun hr hx hx' hv hvm) hcount
   -- what the operation reads
   let ρ : Operand → Value := fun x => match x with
    | .tmp t => bif (o.looksAt l.toArray).contains t then a.eval (.tmp t) else ((stN l es (know0 env) i).env.get t).getD undef
    | x => a.eval x
   have hρt : ∀ t, t ∈ o.looksAt l.toArray → ρ (.tmp t) = a.eval (.tmp t) := by
    intro t ht
    have : (o.looksAt l.toArray).contains t = true := by simpa using ht
    simp only [ρ, this, cond_true]
   have hgo : Goes l.toArray (stN l es (know0 env) i) o w ρ := by
    refine ⟨?_, ?_⟩
    ·intro x v hx
     cases x with
     | tmp t =>
      by_cases ht : t ∈ o.looksAt l.toArray
      ·rw [hρt t ht]
       have := h.read hok ho' hie hun hr ht hx
       simp [Act.eval, this]
      ·have hb : (o.looksAt l.toArray).contains t = false := by simpa using ht
       simp only [evO] at hx
       simp only [ρ, hb, cond_false, hx, Option.getD_some]
     | const u => simpa [evO, Act.eval, ρ] using hx
     | global g => simpa [evO, Act.eval, ρ] using hx
     | func f => simpa [evO, Act.eval, ρ] using hx
    ·intro d V hd hl
     rw [hρt d hl]
     exact h.readS hok ho' hie hr hl hd
   have hcong : isSel o.op = false → execOp ρ o = execOp a.eval o := by
    intro hs
    refine execOp_congr o (fun cs b e => by rw [e] at hs; simp [isSel] at hs) fun x hx => ?_
    cases x with
    | tmp t =>
     refine hρt t ?_
     exact List.mem_append_left _ (List.mem_filterMap.2 ⟨.tmp t, by simpa using hx, rfl⟩)
    | _ => rfl
   have hwant : ∀ b, wantE l.toArray.toList (stN l es (know0 env) i).env o = some b → Region.wanted o (yielded l.toArray a.tmps) = b := by
    intro b hb
    unfold wantE at hb
    unfold Region.wanted
    split at hb
    ·rename_i hg; simp at hb; subst hb; simp [hg]
    ·rename_i j b0 hg
     rw [hg]
     split at hb
     ·rename_i t' ht'
      have hd : (l.toArray[j]?).bind (·.dst) = some t' := by simpa using ht'
      have hlook : t' ∈ o.looksAt l.toArray := List.mem_append_right _ (by simp only [hg, hd]; simp)
      split at hb
      ·rename_i b' hb'
       have := h.read hok ho' hie hun hr hlook hb'
       simp only [yielded, hd, Option.bind_some, this]
       simp at hb; subst hb
       cases b0 <;> cases b' <;> rfl
      ·rename_i hb'
       have := h.read hok ho' hie hun hr hlook hb'
       simp only [yielded, hd, Option.bind_some, this]
       simp at hb; subst hb
       cases b0 <;> rfl
      ·simp at hb
     ·simp at hb
   cases hE : es[i] with
   | val v =>
    rw [hE] at hO step
    obtain ⟨hdk, hsel, hw | ⟨hw, hdf, hex⟩⟩ := hO
    ·refine Run.opSkip (by rw [ho]; simp [hwant _ hw.1]) ?_
     rw [ho]
     exact step (hS.refl w) (fun _ => ExtB.refl _ w) (fun _ => hw.2.symm) (fun hf => by simp [Ent.isMut] at hf)
    ·refine Run.op ho (hwant _ hw) hdf ?_
     rw [← hcong hsel]
     have hW : if E.contains (stN l es (know0 env) i).mu.length = true then Ext w0 w else S w0 w := by
      have hlen : (stN l es (know0 env) i).mu.length = i := by
       rw [stN_mu i (by omega) (by omega), List.length_reverse, List.length_map, List.length_take]; omega
      rw [hlen]
      split
      ·rename_i hE'
       rcases h.wri with ⟨h1, -⟩ | ⟨j, x, U, hj, hx, h2, -⟩
       ·exact h1
       ·exfalso
        have hjl : j < l.length := by have := h.lt j hj; omega
        have ho := hear i (by simpa using hE') j (mu_getD.2 ⟨_, h2, rfl⟩) hjl
        exact hun (ord_listed h.down ho fun o e h1 h2 h3 => h.down j o e hj h1 h2 h3)
      ·exact h.ext
     exact (hex w ρ hW hgo).mono (fun u w' hu => step (hS.of_ext hu.2) (fun _ => hu.2) (fun _ => hu.1) (fun hf => by simp [Ent.isMut] at hf)) (fun _ _ hf => hf.elim)
   | sat V =>
    rw [hE] at hO step
    obtain ⟨hdk, hsel, hw, hdf, -, hex⟩ := hO
    refine Run.op ho (hwant _ hw) hdf ?_
    rw [← hcong hsel]
    exact (hex w ρ h.ext hgo).mono (fun u w' hu => step (hS.of_ext hu.1) (fun _ => hu.1) (fun _ => hu.2) (fun hf => by simp [Ent.isMut] at hf)) (fun _ _ hf => hf.elim)
   | pre V =>
    rw [hE] at hO step
    obtain ⟨hdk, hsel, hw, hdf, -, hex⟩ := hO
    refine Run.op ho (hwant _ hw) hdf ?_
    rw [← hcong hsel]
    exact (hex w ρ h.ext hgo).mono (fun u w' hu => step (hS.of_ext hu.1) (fun _ => hu.1) (fun _ => hu.2) (fun hf => by simp [Ent.isMut] at hf)) (fun _ _ hf => hf.elim)
   | wri V =>
    rw [hE] at hO step
    obtain ⟨hdk, hsel, hw, hdf, -, hex⟩ := hO
    refine Run.op ho (hwant _ hw) hdf ?_
    rw [← hcong hsel]
    have hnone : (stN l es (know0 env) i).ph = none → ∀ (j : Nat) e, Lst listed j → es[j]? = some e → e.isMut = false := by
     intro hp j e' hj he'
     have hph := stN_ph (l := l) (es := es) (env := env) i (by omega) (by omega)
     rw [hp] at hph
     simp only at hph
     rw [hE] at he
     cases hm' : e'.isMut with
     | false => rfl
     | true =>
      have hlt := wri_lt hok hm h he rfl hun hj he' hm'
      have := hph j _ hlt he'; rw [hm'] at this; simp at this
    refine (hex w ρ ?_ hgo (fun hp d V hd hl => by rw [hρt d hl]; exact h.readP hok ho' hie hr (hnone hp) hl hd)).mono (fun u w' hu => step hu.1 (fun hf => by simp [Ent.isMut] at hf) (fun hf => by simp [Ent.isMut] at hf) (fun _ => by
     obtain ⟨x, hx1, hx2, hx3⟩ := hu.2
     refine ⟨x, hx1, hx2, fun t ht => ?_⟩
     obtain ⟨q1, ⟨ty, yy, q2⟩, -⟩ := ht
     rw [← hρt t (look_store q2)]
     exact hx3 ty t yy q1 q2)) (fun _ _ hf => hf.elim)
    have hph := stN_ph (l := l) (es := es) (env := env) i (by omega) (by omega)
    unfold PhOk
    rw [hE] at he
    cases hp : (stN l es (know0 env) i).ph with
    | none =>
     rw [hp] at hph
     simp only at hph ⊢
     rcases h.wri with ⟨h1, -⟩ | ⟨j, x, U, hj, -, h2, -⟩
     ·exact h1
     ·have hlt := wri_lt hok hm h he rfl hun hj h2 rfl
      have := hph j _ hlt h2; simp [Ent.isMut] at this
    | some y =>
     obtain ⟨d, U⟩ := y
     rw [hp] at hph
     simp only at hph ⊢
     obtain ⟨j, x, hj, h1, h2, h3, h4⟩ := hph
     have hlj : Lst listed j := by
      rcases hok.pair j i x o hj h1 ho' with h5 | ⟨-, -, h5⟩
      ·exact ord_listed h.down h5 fun o' e h2 h3 h4 => by
        rw [ho'] at h2; injection h2 with h2; subst h2; exact hr e h3 h4
      ·exact absurd ⟨mu_getD.2 ⟨_, h3, rfl⟩, mu_getD.2 ⟨_, he, rfl⟩⟩ h5
     rcases h.wri with ⟨-, h5⟩ | ⟨i', o', U', hi', h5, h6, h7, y, h8, h9, -⟩
     ·have := h5 j _ hlj h3; simp [Ent.isMut] at this
     ·have hij : i' = j := by
       have h10 := h7 j _ hlj h3 rfl
       rcases Nat.lt_or_eq_of_le h10 with hlt | heq
       ·have h11 := wri_lt hok hm h he rfl hun hi' h6 rfl
        have := h4 i' _ hlt h11 h6; simp [Ent.isMut] at this
       ·exact heq.symm
      subst hij
      rw [h1] at h5; injection h5 with h5; subst h5
      rw [h3] at h6; injection h6 with h6; injection h6 with h6; subst h6
      exact ⟨h.ext, y, h8, fun t ht hl => by rw [hρt t hl]; exact h9 t (by rw [h2, ht])⟩
end

def Asy (P : Program) (c : Ctx) (n : Nat) (ds : List Deferred) (E : List Nat) (S : World → World → Prop) (w0 : World) (l : List Oper) (k : List Item) (Q : Out → Act → World → Prop) (rest : List Oper) (s : Know) : Prop :=
 ∃ es, AsyF P n E S w0 l.toArray (AsyT P c n ds E S w0 l k Q) es rest s

theorem RunE.draw {P : Program} {c : Ctx} {n : Nat} {ds : List Deferred} {k : List Item} {Q : Out → Act → World → Prop} {env : Env} {w : World} {l : List Oper} {id : Nat} (E : List Nat) (S : World → World → Prop) (hS : RelOk S)
  (hmr : P.follows .mixedOrders = true) (h : ∀ w0, Ext w w0 → Asy P c n ds E S w0 l k Q l (know0 env)) : RunE P c n ds (.code (.region id l.toArray true) :: k) Q env w := fun a ha => by
 refine order_run hmr fun t => ?_
 obtain ⟨es, hF⟩ := h _ ((ExtB.refl _ w).draw (w.drawn + 1) (Nat.le_succ _))
 obtain ⟨hm, hop, htail⟩ := asyF_all hF
 have hmu : (stN l es (know0 env) es.length).mu.reverse = es.map Ent.isMut := by
  rw [stN_mu es.length (Nat.le_refl _) hm, List.reverse_reverse, List.take_length]
 have hok : Okay l (es.map Ent.isMut) := chk_okay (by rw [← hmu]; exact htail.1)
 refine asy_go hok hop hm hS (by rw [← hmu]; exact earChk_ok htail.2.1) htail l.length t _ a _ ?_ ?_
 ·have hn : ∀ j, ¬ Lst (Array.replicate l.length false) j := by
   intro j hj
   unfold Lst at hj
   simp only [Array.getD_eq_getD_getElem?, Array.getElem?_replicate] at hj
   split at hj <;> simp at hj
  refine ⟨by simp, ha.size, ha.defers, hS.refl _, fun j hj => (hn j hj).elim, fun j _ _ hj => (hn j hj).elim, fun j _ _ _ hj => (hn j hj).elim, fun j _ _ _ hj => (hn j hj).elim,
   .inl ⟨ExtB.refl _ _, fun j _ hj => (hn j hj).elim⟩, fun t v ht _ => ha.get t v ht, fun _ j _ _ _ hj => (hn j hj).elim⟩
 ·refine Nat.le_trans List.count_le_length ?_
  simp
end Go.RnW
namespace Go.RnW
open Go.RowKit Go.Rn
section
variable {P : Program} {c : Ctx} {k : List Item} {Q : Out → Act → World → Prop} {w0 : World} {n : Nat} {ds : List Deferred} {env : Env} {E : List Nat} {S : World → World → Prop} {sats pres : List (Nat × Pred)} {ph : Option (Option Nat × Pred)} {mu : List Bool}
variable {l : List Oper} {d : Tmp} {op : Op} {ty : TypeId} {pos : String} {after : Array Edge} {guard : Option (Nat × Bool)} {rest : List Oper}
theorem Asy.step {o : Oper} {s : Know} {e : Ent} (h : OpOk P n E S w0 l.toArray s o e) (h' : Asy P c n ds E S w0 l k Q rest (s.add o.dst e)) : Asy P c n ds E S w0 l k Q (o :: rest) s :=
 let ⟨es, hes⟩ := h'; ⟨e :: es, h, hes⟩
theorem Asy.pure {T : Tab} (hT : T.Ok P) {v : Value} (hw : wantE l env ⟨some d, op, ty, pos, after, guard⟩ = some true) (hdst : Nat.blt d n = true) (hv : evalOp T env op = some v)
  (h : Asy P c n ds E S w0 l k Q rest ⟨(d, v) :: env, sats, ph, false :: mu, pres⟩) : Asy P c n ds E S w0 l k Q (⟨some d, op, ty, pos, after, guard⟩ :: rest) ⟨env, sats, ph, mu, pres⟩ :=
 .step (e := .val v) ⟨hdst, evalOp_notSel hv, .inr ⟨hw, evalOp_notDefer hv, fun w' ρ _ hg => (evalOp_v (w := w') hT (o := ⟨some d, op, ty, pos, after, guard⟩) hv).e ρ hg.ev |>.mono (fun _ _ h => ⟨h.1, by rw [h.2]; exact ExtB.refl _ _⟩) (fun _ _ h => h)⟩⟩ h
theorem Asy.vS {v : Value} (hw : wantE l env ⟨some d, op, ty, pos, after, guard⟩ = some true) (hdst : Nat.blt d n = true) (hd : isDefer op = false) (hs : isSel op = false)
  (hv : ∀ w', S w0 w' → OpV P env w' ⟨some d, op, ty, pos, after, guard⟩ v)
  (h : Asy P c n ds [] S w0 l k Q rest ⟨(d, v) :: env, sats, ph, false :: mu, pres⟩) : Asy P c n ds [] S w0 l k Q (⟨some d, op, ty, pos, after, guard⟩ :: rest) ⟨env, sats, ph, mu, pres⟩ :=
 .step (e := .val v) ⟨hdst, hs, .inr ⟨hw, hd, fun w' ρ hx hg => (hv w' (by simpa using hx)).e ρ hg.ev |>.mono (fun _ _ h => ⟨h.1, by rw [h.2]; exact ExtB.refl _ _⟩) (fun _ _ h => h)⟩⟩ h
theorem Asy.eS {v : Value} (hw : wantE l env ⟨some d, op, ty, pos, after, guard⟩ = some true) (hdst : Nat.blt d n = true) (hd : isDefer op = false) (hs : isSel op = false)
  (hv : ∀ w', S w0 w' → OpE P env w' ⟨some d, op, ty, pos, after, guard⟩ (fun u w'' => u = v ∧ Ext w' w'') fun _ _ => False)
  (h : Asy P c n ds [] S w0 l k Q rest ⟨(d, v) :: env, sats, ph, false :: mu, pres⟩) : Asy P c n ds [] S w0 l k Q (⟨some d, op, ty, pos, after, guard⟩ :: rest) ⟨env, sats, ph, mu, pres⟩ :=
 .step (e := .val v) ⟨hdst, hs, .inr ⟨hw, hd, fun w' ρ hx hg => hv w' (by simpa using hx) ρ hg.ev⟩⟩ h
theorem Asy.sat0 (V : Pred) (hw : wantE l env ⟨some d, op, ty, pos, after, guard⟩ = some true) (hdst : Nat.blt d n = true) (hd : isDefer op = false) (hs : isSel op = false)
  (hV : ∀ v w' w'', S w0 w' → S w' w'' → V v w' → V v w'')
  (h : ∀ w', S w0 w' → OpE P env w' ⟨some d, op, ty, pos, after, guard⟩ (fun u w'' => Ext w' w'' ∧ V u w'') fun _ _ => False)
  (h' : Asy P c n ds [] S w0 l k Q rest ⟨env.del (some d), (d, V) :: sats, ph, false :: mu, pres⟩) : Asy P c n ds [] S w0 l k Q (⟨some d, op, ty, pos, after, guard⟩ :: rest) ⟨env, sats, ph, mu, pres⟩ :=
 .step (e := .sat V) ⟨hdst, hs, hw, hd, hV, fun w' ρ hx hg => h w' hx ρ hg.ev⟩ h'
theorem Asy.wri1 (i : Nat) {t : Nat} {U : Pred} {tt : TypeId} {y : Operand} (V : Pred) (hi : sats[i]? = some (t, U))
  (hw : wantE l env ⟨none, .store tt (.tmp t) y, ty, pos, after, guard⟩ = some true)
  (hV : ∀ v w' w'', S w0 w' → Ext w' w'' → V v w' → V v w'')
  (h : ∀ w' x, Ext w0 w' → U x w' → OpE P ((t, x) :: env) w' ⟨none, .store tt (.tmp t) y, ty, pos, after, guard⟩ (fun _ w'' => S w' w'' ∧ V x w'') fun _ _ => False)
  (h' : Asy P c n ds [] S w0 l k Q rest ⟨env, sats, some (none, V), true :: mu, pres⟩) : Asy P c n ds [] S w0 l k Q (⟨none, .store tt (.tmp t) y, ty, pos, after, guard⟩ :: rest) ⟨env, sats, none, mu, pres⟩ :=
 .step (e := .wri V) ⟨rfl, rfl, hw, rfl, hV, fun w' ρ hx hg _ => (h w' _ hx (hg.sat t U (List.mem_of_getElem? hi) (look_store rfl)) ρ (ev_cons hg.ev rfl)).mono
  (fun u w'' hu => ⟨hu.1, _, hu.2, fun t ht => by simp at ht, fun ty' t' y' _ he => by injection he with _ h1 _; injection h1 with h1; subst h1; rfl⟩) (fun _ _ h => h)⟩ h'
theorem get_xs {xs : Nat → Value} {B : Env} {t : Nat} : ∀ {A : Env}, (∀ e ∈ A, e.2 = xs e.1) → Env.get (A ++ B) t = if t ∈ A.map (·.1) then some (xs t) else Env.get B t := by
 intro A
 induction A with
 | nil => intro _; simp
 | cons e A ih =>
  intro h
  obtain ⟨s, v⟩ := e
  have hv : v = xs s := h (s, v) List.mem_cons_self
  subst hv
  by_cases hs : s = t
  ·subst hs
   rw [List.cons_append, Env.get_cons_same]; simp
  ·rw [List.cons_append, Env.get_cons_ne hs, ih fun e he => h e (List.mem_cons_of_mem _ he)]
   have e : (t ∈ ((s, xs s) :: A).map (·.1)) ↔ t ∈ A.map (·.1) := by
    rw [List.map_cons, List.mem_cons]
    exact ⟨fun h => h.resolve_left fun e => hs e.symm, .inr⟩
   by_cases h1 : t ∈ A.map (·.1)
   ·rw [if_pos h1, if_pos (e.2 h1)]
   ·rw [if_neg h1, if_neg fun h => h1 (e.1 h)]
def namedB (l : List Oper) (j t : Nat) : Bool := match l[j]? with
 | some o => o.dst.isNone && (match o.op with | .store _ (.tmp s) _ => Nat.beq s t | _ => false) && (l.take j).any fun x => match x.dst with | some s => Nat.beq s t | none => false
 | none => false
theorem namedB_spec {l : List Oper} {j t : Nat} (h : namedB l j t = true) : ∃ o, l[j]? = some o ∧ namedO l j o t := by
 unfold namedB at h
 split at h
 ·rename_i o ho
  simp only [Bool.and_eq_true, Option.isNone_iff_eq_none, List.any_eq_true] at h
  obtain ⟨⟨h1, h2⟩, x, hx, h3⟩ := h
  refine ⟨o, ho, h1, ?_, ?_⟩
  ·split at h2
   ·rename_i ty s y he
    have := Nat.eq_of_beq_eq_true h2
    subst this
    exact ⟨ty, y, he⟩
   ·simp at h2
  ·obtain ⟨i, hi, e⟩ := List.getElem_of_mem hx
   have hij : i < j := by rw [List.length_take] at hi; omega
   refine ⟨i, x, hij, ?_, ?_⟩
   ·rw [List.getElem_take] at e
    rw [← e]; exact List.getElem?_eq_getElem _
   ·split at h3
    ·rename_i s hs
     have := Nat.eq_of_beq_eq_true h3
     subst this; exact hs
    ·simp at h3
 ·simp at h
theorem Asy.tail1 (i j : Nat) {t : Nat} {U V : Pred} (hc : chk l mu.reverse l [] = true) (he : earChk mu.reverse [] l [] = true) (hi : sats[i]? = some (t, U)) (hj : lastMut mu = some j) (hn : namedB l j t = true)
  (h : ∀ w' x, S w0 w' → V x w' → U x w' → satsAll (sats.eraseIdx i) w' ((t, x) :: env) fun e => RunL P c n ds l.toArray rest k Q e w') :
  Asy P c n ds [] S w0 l k Q rest ⟨env, sats, some (none, V), mu, pres⟩ :=
 ⟨[], hc, he, fun w' xs hx hs hp k' hk' a ha => by
  obtain ⟨x, hV, -, hnm⟩ := hp
  obtain ⟨o, ho, hno⟩ := namedB_spec hn
  have hxt := hnm j o t hj ho hno
  subst hxt
  refine satsAll_run (xs := xs) (sats.eraseIdx i) _ (fun d V hd => hs d V (List.mem_of_mem_eraseIdx hd)) (h w' _ hx hV (hs t U (List.mem_of_getElem? hi))) k' hk' a (ha.sub fun t' v ht => ?_)
  show Env.get ((sats.map fun s => (s.1, xs s.1)) ++ env) t' = some v
  have hA : ∀ (ss : List (Nat × Pred)), ∀ e ∈ ss.map (fun s => (s.1, xs s.1)), e.2 = xs e.1 := fun ss e he => by
   obtain ⟨s, -, rfl⟩ := List.mem_map.1 he; rfl
  have ht2 := get_swap (A := (sats.eraseIdx i).map fun s => (s.1, xs s.1)) (xs := xs) (fun t v hm => hA _ (t, v) hm) t' v ht
  rw [get_xs (hA _)] at ht2 ⊢
  by_cases h1 : t' ∈ ((sats.eraseIdx i).map fun s => (s.1, xs s.1)).map (·.1)
  ·rw [if_pos h1] at ht2
   rw [if_pos, ht2]
   simp only [List.map_map, List.mem_map, Function.comp_apply] at h1 ⊢
   obtain ⟨s, hs1, hs2⟩ := h1
   exact ⟨s, List.mem_of_mem_eraseIdx hs1, hs2⟩
  ·rw [if_neg h1] at ht2
   by_cases h2 : t = t'
   ·subst h2
    rw [Env.get_cons_same] at ht2
    rw [if_pos, ht2]
    simp only [List.map_map, List.mem_map, Function.comp_apply]
    exact ⟨_, List.mem_of_getElem? hi, rfl⟩
   ·rw [Env.get_cons_ne h2] at ht2
    rw [if_neg, ht2]
    intro h3
    simp only [List.map_map, List.mem_map, Function.comp_apply] at h1 h3
    obtain ⟨s, hs1, hs2⟩ := h3
    obtain ⟨m, hm⟩ := List.getElem?_of_mem hs1
    by_cases h4 : m = i
    ·subst h4
     rw [hi] at hm; injection hm with hm
     subst hm
     exact h2 hs2
    ·exact h1 ⟨s, List.mem_eraseIdx_iff_getElem?.2 ⟨m, h4, hm⟩, hs2⟩⟩
end
def isT (T : TypeId) (n0 : Nat) (w : World) (k : Nat) : Prop := n0 ≤ k ∧ ∃ cs : Array Value, w.heap[k]? = some (.cells cs T (0, 0))
def onlyT (T : TypeId) (n0 : Nat) (a c : World) : Prop := ExtB (isT T n0 a) a c ∧ ∀ (k : Nat) (cs : Array Value), a.heap[k]? = some (.cells cs T (0, 0)) → ∃ cs', c.heap[k]? = some (.cells cs' T (0, 0)) ∧ cs'.size = cs.size
theorem onlyT_ok (T : TypeId) (n0 : Nat) : RelOk (onlyT T n0) where
 refl := fun w => ⟨ExtB.refl _ _, fun k cs h => ⟨cs, h, rfl⟩⟩
 trans := by
  rintro a b c ⟨e1, h1⟩ ⟨e2, h2⟩
  refine ⟨?_, fun k cs h => ?_⟩
  ·have e3 : ExtB (fun k => isT T n0 a k ∨ a.heap.size ≤ k) a c := by
    refine ExtB.trans (e1.mono fun k _ h => .inl h) (e2.mono fun k hk h => ?_)
    rcases Nat.lt_or_ge k a.heap.size with hlt | hge
    ·obtain ⟨h3, cs, h4⟩ := h
     by_cases h5 : isT T n0 a k
     ·exact .inl h5
     ·rw [e1.block k hlt h5] at h4
      exact absurd ⟨h3, cs, h4⟩ h5
    ·exact .inr hge
   exact e3.mono fun k hk h => by
    rcases h with h | h
    ·exact h
    ·omega
  ·obtain ⟨cs1, g1, g2⟩ := h1 k cs h
   obtain ⟨cs2, g3, g4⟩ := h2 k cs1 g1
   exact ⟨cs2, g3, g4.trans g2⟩
 of_ext := fun {a b} e => ⟨ExtB.of_ext e, fun k cs h => ⟨cs, by rw [e.block k (lt_of_get h) id]; exact h, rfl⟩⟩
def newT (T : TypeId) (n0 sz : Nat) (x : Value) (w : World) : Prop := ∃ (B : Nat) (cs : Array Value), x = .pointer (some ⟨B, 0, none⟩) ∧ n0 ≤ B ∧ w.heap[B]? = some (.cells cs T (0, 0)) ∧ cs.size = sz
theorem newT.keep {T : TypeId} {n0 sz : Nat} {x : Value} {a c : World} (h : newT T n0 sz x a) (s : onlyT T n0 a c) : newT T n0 sz x c := by
 obtain ⟨B, cs, h1, h2, h3, h4⟩ := h
 obtain ⟨cs', h5, h6⟩ := s.2 B cs h3
 exact ⟨B, cs', h1, h2, h5, h6.trans h4⟩
theorem onlyT.turn {T : TypeId} {n0 B sz : Nat} {a c : World} {cs cs' : Array Value} (h : a.heap[B]? = some (.cells cs T (0, 0))) (hs : cs.size = sz) (hn : n0 ≤ B) (t : Turned a c B (.cells cs' T (0, 0))) (hs' : cs'.size = sz) : onlyT T n0 a c := by
 refine ⟨t.ext.mono fun k _ hk => ?_, fun k ds hk => ?_⟩
 ·have hk : k = B := hk
  subst hk; exact ⟨hn, cs, h⟩
 ·by_cases e : k = B
  ·subst e
   rw [h] at hk
   injection hk with hk; injection hk with hk
   subst hk
   exact ⟨cs', t.at_, hs'.trans hs.symm⟩
  ·exact ⟨ds, by rw [t.ext.block k (lt_of_get hk) e]; exact hk, rfl⟩
end Go.RnW
end
section
set_option maxRecDepth 4000
namespace Go.Rn
open Go.RowKit
theorem setAt_mid3X : ∀ (vs a b c : List Value), b.length = vs.length → setAt (a ++ (b ++ c)) a.length vs = a ++ (vs ++ c)
 | [], a, b, c, h => by
  have : b = [] := List.length_eq_zero_iff.1 h
  subst this; rfl
 | v :: r, a, [], c, h => by simp at h
 | v :: r, a, x :: b, c, h => by
  have e : (a ++ (x :: b ++ c)).set a.length v = (a ++ [v]) ++ (b ++ c) := by
   rw [List.set_append_right _ _ (Nat.le_refl _), Nat.sub_self]; simp
  show setAt ((a ++ (x :: b ++ c)).set a.length v) (a.length + 1) r = _
  have e2 : a.length + 1 = (a ++ [v]).length := by simp
  rw [e, e2, setAt_mid3X r (a ++ [v]) b c (by simpa using h)]
  simp
end Go.Rn
namespace Go.Rec
open Go.Rn
theorem setAt_flatX {α : Type} {enc : α → List Value} {k : Nat} (h : EncOk enc k) {l : List α} {j : Nat} (hj : j < l.length) (y : α) : setAt (flat enc l) (0 + j * k) (enc y) = flat enc (l.set j y) := by
 have e1 : l = l.take j ++ l[j] :: l.drop (j + 1) := by rw [← List.drop_eq_getElem_cons hj, List.take_append_drop]
 have e2 : l.set j y = l.take j ++ y :: l.drop (j + 1) := List.set_eq_take_append_cons_drop.trans (by rw [if_pos hj])
 have e3 : (flat enc (l.take j)).length = 0 + j * k := by rw [flat_length h, List.length_take, Nat.min_eq_left (by omega), Nat.zero_add]
 rw [e2, flat_append, flat_cons, ← e3]
 conv => lhs; arg 1; rw [e1, flat_append, flat_cons]
 exact setAt_mid3X _ _ _ _ ((h.len _).trans (h.len _).symm)
section
variable {P : Program} {c : Ctx} {k : List Item} {Q : Out → Act → World → Prop} {w : World} {n : Nat} {ds : List Deferred} {env : Env}
variable {ops : Array Oper} {d : Tmp} {op : Op} {ty : TypeId} {pos : String} {after : Array Edge} {guard : Option (Nat × Bool)} {rest : List Oper}
theorem RunL.storeFlatX {T : Tab} (hT : T.Ok P) {t bt : TypeId} {i : TI} {x y : Operand} {b : Nat} {v : Value} {α : Type} {enc : α → List Value} {sz : Nat} (h : EncOk enc sz) {l : List α} (j : Nat) (z : α)
  (hw : wantE ops.toList env ⟨none, .store t x y, ty, pos, after, guard⟩ = some true) (hx : evO env x = some (.pointer (some ⟨b, 0 + j * sz, none⟩))) (hy : evO env y = some v)
  (ht : T.get t = some i) (hsz : i.size = sz) (hv : v.cells.toList = enc z) (hb : Blk w b (flat enc l) bt) (hj : j < l.length)
  (hk : ∀ w', Turned w w' b (.cells (flat enc (l.set j z)).toArray bt (0, 0)) → RunL P c n ds ops rest k Q env w') :
  RunL P c n ds ops (⟨none, .store t x y, ty, pos, after, guard⟩ :: rest) k Q env w := by
 refine RunL.store hT hw hx hy ht (by rw [hv, h.len, hsz]) hb ?_ (by rw [hv]; exact h.plain z) fun w' t' => ?_
 ·rw [hv, h.len, Nat.ble_eq, flat_length h]
  have := Nat.mul_le_mul_right sz (show j + 1 ≤ l.length from hj)
  rw [Nat.add_mul] at this; omega
 ·rw [hv, setAt_flatX h hj] at t'
  exact hk w' t'
end
end Go.Rec
namespace Go.Rec
open Go.Rn Go.RowKit
theorem isL_keep {α : Type} {enc : α → List Value} {k : Nat} {S : Nat → Prop} {w w' : World} {v : Value} {l : List α} (h : IsL w enc k v l) (hk : 0 < k) (e : ExtB S w w') (hS : ∀ i, S i → w.heap.size ≤ i) : IsL w' enc k v l :=
 isL_ext h e fun hne j hj hSj => by have := isL_own h hk hne hj; have := hS j hSj; omega
end Go.Rec
end
section
set_option maxRecDepth 4000
namespace Go.Sg
open Go.Rn Go.Proofs Go.Rec Go.Best
attribute [local irreducible] Go.Rn.RetsX Go.Rn.RunLN Go.Rn.AsyN Go.Rn.RunL Go.Rn.RunE Go.Rn.Asy Go.Rn.OpV Go.Rn.OpE Go.Rn.ExecE
instance iLibJ_1 (a b : Int) : Pf 119 [.int .i64 a, .int .i64 b] (.int .i64 (cmpI a b)) := ⟨fun w => by
 unfold cmpI
 refine en Tryz.func119 20 fun hf_ => ?_
 by_cases h1 : a < b
 ·refine rt ?_
  exact ⟨by rw [if_pos h1]; rfl, rfl⟩
 ·by_cases h2 : b < a
  ·refine rt ?_
   exact ⟨by rw [if_neg h1, if_pos h2]; rfl, rfl⟩
  ·refine rt ?_
   exact ⟨by rw [if_neg h1, if_neg h2]; rfl, rfl⟩⟩
abbrev valuesV (b : Nat) : Value := .func (.func 155) #[] #[.pointer (some ⟨b, 0, none⟩)]
abbrev backV (b : Nat) : Value := .func (.func 121) #[] #[.pointer (some ⟨b, 0, none⟩)]
theorem values_gives (l : List Int) (v : Value) (b1 : Nat) (w0 : World) (hl : l.length ≤ 100000) (hv : IsL w0 intC 1 v l) (Y1 : Blk w0 b1 [v] 31) :
  Gives Tryz.prog (valuesV b1) (l.map fun n => [.int .i64 n]) w0 (fun k => k = b1 ∨ (l ≠ [] ∧ v.ownBlock = some k)) := by
 intro S J y w hS hJ0 hJX hJup hy
 refine RetsX.v (fi := []) (args := [y]) (ca := [.pointer (some ⟨b1, 0, none⟩)]) ?_
 change RetsX Tryz.prog 155 [y, .pointer (some ⟨b1, 0, none⟩)] _ _ _
 refine en Tryz.func155 16 fun hf_ => ?_
 have U1 := Y1.ext (hJX _ _ hJ0) (hS _ (by simp))
 refine g ?_
 refine rangeL hv encI 5 6 7 (fun _ : Unit => [(0, y), (1, .pointer (some ⟨b1, 0, none⟩))]) (fun i _ w' => J i w') () sb_ hJ0 ?_ ?_
 ·rintro i ⟨⟩ x w3 hx hJ b o cap rfl hrx hlt again
  replace hrx := hrx.ext (hJX _ _ hJ) (hS b (.inr ⟨List.ne_nil_of_length_pos (by omega), rfl⟩))
  refine g ?_
  refine RunL.ex rfl rfl rfl (OpE.callV rfl rfl (hy i [.int .i64 x] w3 (by rw [List.getElem?_map, hx]; rfl) hJ)) ?_
  rintro _ w6 ⟨rfl, hJ6⟩
  refine g ?_
  exact RunE.weaken sb_ (again () w6 hJ6)
 ·intro s w3 hJ
  refine g ?_
  refine RunE.fallFn hf_ .nil ?_
  rw [List.length_map]; exact hJ
theorem values_ok (l : List Int) (v : Value) (w : World) (hl : l.length ≤ 100000) (hv : IsL w intC 1 v l) :
  Rets Tryz.prog 120 [v] w fun r w' => (∃ F : Nat → Prop, Gives Tryz.prog r (l.map fun n => [.int .i64 n]) w' F ∧ ∀ k, F k → k < w'.heap.size ∧ (w.heap.size ≤ k ∨ (l ≠ [] ∧ v.ownBlock = some k))) ∧ Ext w w' := by
 obtain ⟨d, cp, rfl⟩ := isSl_slice hv
 refine en Tryz.func120 4 fun hf_ => ?_
 refine g1 (cs := [.slice d l.length cp]) fun B1 w1 E1 G1 Z1 => ?_
 refine rt ?_
 refine ⟨⟨_, values_gives l _ B1 w1 hl (hv.up E1) Z1, fun k hk => ?_⟩, E1⟩
 rcases hk with rfl | h
 ·exact ⟨Z1.lt, .inl G1⟩
 ·exact ⟨Nat.lt_of_lt_of_le (isL_own hv (by decide) h.1 h.2) E1.size, .inr h⟩
def backs (l : List Int) : List (List Value) := (List.range l.length).reverse.map fun (i : Nat) => [.int .i64 (i : Int), .int .i64 (l.getD i 0)]
theorem backs_get (l : List Int) (k : Nat) (h : k < l.length) : (backs l)[k]? = some [.int .i64 ((l.length - 1 - k : Nat) : Int), .int .i64 (l.getD (l.length - 1 - k) 0)] := by
 unfold backs
 rw [List.getElem?_map, List.getElem?_reverse (by simpa using h)]
 simp only [List.length_range]
 rw [List.getElem?_range (by omega)]; rfl
theorem backs_len (l : List Int) : (backs l).length = l.length := by simp [backs]
theorem back_gives (l : List Int) (v : Value) (b1 : Nat) (w0 : World) (hl : l.length ≤ 100000) (hv : IsL w0 intC 1 v l) (Y1 : Blk w0 b1 [v] 31) :
  Gives Tryz.prog (backV b1) (backs l) w0 (fun k => k = b1 ∨ (l ≠ [] ∧ v.ownBlock = some k)) := by
 intro S J y w hS hJ0 hJX hJup hy
 refine RetsX.v (fi := []) (args := [y]) (ca := [.pointer (some ⟨b1, 0, none⟩)]) ?_
 change RetsX Tryz.prog 121 [y, .pointer (some ⟨b1, 0, none⟩)] _ _ _
 refine en Tryz.func121 19 fun hf_ => ?_
 have U1 := Y1.ext (hJX _ _ hJ0) (hS _ (by simp))
 refine g ?_
 refine RunE.loop (ι := Nat) (fun k => [(0, y), (1, .pointer (some ⟨b1, 0, none⟩)), (3, .int .i64 ((l.length : Int) - 1 - (k : Int)))]) (fun k w' => k ≤ l.length ∧ J k w') (fun k => l.length - k) 0 (by simpa using (show Sub _ _ from sb_)) ⟨Nat.zero_le _, hJ0⟩ ?_
 rintro k w3 ⟨hk, hJ⟩ again
 by_cases hlt : k < l.length
 ·obtain ⟨b, o, cap, rfl, hr, hcp⟩ := isL_held hv (show l.length - 1 - k < l.length by omega)
  have hx : l[l.length - 1 - k]? = some (l.getD (l.length - 1 - k) 0) := by rw [List.getElem?_eq_getElem (by omega), List.getD_eq_getElem?_getD, List.getElem?_eq_getElem (by omega)]; rfl
  have hrx := (flat_row encI hr hx).ext (hJX _ _ hJ) (hS b (.inr ⟨List.ne_nil_of_length_pos (by omega), rfl⟩))
  have U1 := Y1.ext (hJX _ _ hJ) (hS _ (by simp))
  have he : (l.length : Int) - 1 - (k : Int) = ((l.length - 1 - k : Nat) : Int) := by omega
  rw [he]
  refine g ?_
  refine RunL.ex rfl rfl rfl (OpE.callV rfl rfl (hy k _ w3 (backs_get l k hlt) hJ)) ?_
  rintro _ w6 ⟨rfl, hJ6⟩
  refine g ?_
  refine RunE.weaken ?_ (again (k + 1) w6 (by omega) ⟨by omega, hJ6⟩)
  rw [show ((l.length : Int) - 1 - ((k + 1 : Nat) : Int)) = ((l.length - 1 - k : Nat) : Int) - 1 by omega]
  exact sb_
 ·obtain rfl : k = l.length := by omega
  refine g ?_
  refine RunE.fallFn hf_ .nil ?_
  rw [backs_len]; exact hJ
theorem back_ok (l : List Int) (v : Value) (w : World) (hl : l.length ≤ 100000) (hv : IsL w intC 1 v l) :
  Rets Tryz.prog 76 [v] w fun r w' => (∃ F : Nat → Prop, Gives Tryz.prog r (backs l) w' F ∧ ∀ k, F k → k < w'.heap.size ∧ (w.heap.size ≤ k ∨ (l ≠ [] ∧ v.ownBlock = some k))) ∧ Ext w w' := by
 obtain ⟨d, cp, rfl⟩ := isSl_slice hv
 refine en Tryz.func76 4 fun hf_ => ?_
 refine g1 (cs := [.slice d l.length cp]) fun B1 w1 E1 G1 Z1 => ?_
 refine rt ?_
 refine ⟨⟨_, back_gives l _ B1 w1 hl (hv.up E1) Z1, fun k hk => ?_⟩, E1⟩
 rcases hk with rfl | h
 ·exact ⟨Z1.lt, .inl G1⟩
 ·exact ⟨Nat.lt_of_lt_of_le (isL_own hv (by decide) h.1 h.2) E1.size, .inr h⟩
def minL : List Int → Int
 | [] => 0
 | x :: r => r.foldl (fun m n => if n < m then n else m) x
theorem minI_ok (l : List Int) (v : Value) (w : World) (hl : l.length ≤ 100000) (h0 : 0 < l.length) (hv : IsL w intC 1 v l) : Rets Tryz.prog 77 [v] w fun r w' => r = .int .i64 (minL l) ∧ w = w' := by
 obtain ⟨b, o, cap, rfl, hr, hcp⟩ := isL_held hv h0
 obtain ⟨x, r, rfl⟩ : ∃ x r, l = x :: r := by
  cases l with
  | nil => simp at h0
  | cons x r => exact ⟨x, r, rfl⟩
 have hr0 : Row w b (o + 0 * 1) (intC x) := flat_row encI hr (i := 0) (x := x) rfl
 refine en Tryz.func77 25 fun hf_ => ?_
 refine g ?_
 refine RunE.loop (ι := Nat × Int) (fun s => [(0, .slice (some ⟨b, o, none⟩) (x :: r).length cap), (3, .int .i64 s.2), (4, .int .i64 (s.1 : Int))]) (fun s w' => 1 ≤ s.1 ∧ s.1 ≤ (x :: r).length ∧ minL (x :: r) = ((x :: r).drop s.1).foldl (fun m n => if n < m then n else m) s.2 ∧ w = w') (fun s => (x :: r).length - s.1) (1, x) sb_ ⟨Nat.le_refl _, by simp, rfl, rfl⟩ ?_
 rintro ⟨i, m⟩ _ ⟨h1, h2, h3, rfl⟩ again
 simp only at h1 h2 h3 again ⊢
 by_cases hlt : i < (x :: r).length
 ·have hx : (x :: r)[i]? = some (x :: r)[i] := List.getElem?_eq_getElem hlt
  have hrx := flat_row encI hr hx
  rw [List.drop_eq_getElem_cons hlt, List.foldl_cons] at h3
  refine g ?_
  refine RunE.weaken sb_ (again (i + 1, if (x :: r)[i] < m then (x :: r)[i] else m) _ (by simp only; omega) ⟨by simp only; omega, by simp only; omega, h3, rfl⟩)
 ·rw [List.drop_eq_nil_of_le (by omega)] at h3
  refine rt ?_
  exact ⟨by rw [h3]; rfl, rfl⟩
end Go.Sg
end
section
set_option maxRecDepth 4000
namespace Go.Proofs
open Go.Shelf Go.RowKit Go.Lib Go.Sort
def Tryz.insI_ren : Go.Shelf.Ren := ⟨fun | 20 => 184 | n => n, fun | 24 => 3 | 22 => 31 | 3 => 3 | 25 => 197 | 4 => 4 | 0 => 0 | n => n, fun | n => n⟩
theorem Tryz.insI : Go.Proofs.SlLaysF.n20 Tryz.prog Tryz.insI_ren where
 mixed := by kernel_rfl
 f20 := ⟨Tryz.f184.name, by kernel_rfl, Tryz.func184.trans (congrArg some (by kernel_rfl))⟩
 t0 := Tryz.underlying0
 a0 := Tryz.isAgg0
 z0 := Tryz.sizeOf0
 v0 := Tryz.zeroValue0
 t3 := Tryz.underlying3
 a3 := Tryz.isAgg3
 z3 := Tryz.sizeOf3
 v3 := Tryz.zeroValue3
 t4 := Tryz.underlying4
 a4 := Tryz.isAgg4
 z4 := Tryz.sizeOf4
 v4 := Tryz.zeroValue4
 t22 := Tryz.underlying31
 a22 := Tryz.isAgg31
 z22 := Tryz.sizeOf31
 v22 := Tryz.zeroValue31
 a24 := Tryz.isAgg3
 z24 := Tryz.sizeOf3
 t25 := Tryz.underlying197
 a25 := Tryz.isAgg197
 z25 := Tryz.sizeOf197
 v25 := Tryz.zeroValue197
end Go.Proofs
end
section
set_option maxRecDepth 4000
namespace Go.Rn
open Go.RowKit
variable {P : Program} {c : Ctx} {k : List Item} {Q : Out → Act → World → Prop} {w : World} {n : Nat} {ds : List Deferred} {env : Env}
theorem RunE.rangeFuncIn {L0 : Nat} {lp0 : Loop} {f : Operand} {params : Array Tmp} {assign body : Code} {fv : Value} (hc : c.round = some L0) (hL0 : w.heap[L0]? = some (.loop lp0)) (hf : evO env f = some fv)
  (h : ∀ a L w2 lp, St n ds env a → Added w w2 L (.loop lp) → LpOk lp c.fn a params assign body →
   FnV P fv [yieldV L] w2 (fun _ w3 => ∃ lp, w3.heap[L]? = some (.loop lp) ∧ (lp.state == .busy) = false ∧
    ∀ w4, Turned w3 w4 L (.loop { lp with state := .exhausted }) → Run P c ((lp.pending.map Item.code).toList ++ k) Q a w4) (fun _ _ => False)) :
  RunE P c n ds (.code (.rangeFunc f params assign body) :: k) Q env w := fun a ha cs => by
 obtain ⟨cf, ck, cr⟩ := c
 simp only at hc
 subst hc
 generalize hcc : (⟨cf, ck, some L0⟩ : Ctx) = c at *
 have hcr : c.round = some L0 := by rw [← hcc]
 have hfe : a.eval f = fv := ha.ev hf
 let lp1 : Loop := { state := .ready, pending := none, fn := c.fn, tmps := a.tmps, params, assign, body, defers := lp0.defers }
 let w2 : World := { w with heap := w.heap.push (.loop lp1) }
 have hrun : (Instr.enterLoop c.fn a.tmps params assign body (some L0)).run P w = .ok (w.heap.size, []) w2 := by
  unfold Instr.enterLoop
  simp only
  rw [run_bind _ _ (run_getLoop hL0)]
  rfl
 have hV := h a w.heap.size w2 lp1 ha (added_push w _) ⟨rfl, rfl, rfl, rfl, rfl, rfl, rfl⟩
 -- the call
 let fr' : Frame := c.fr a (.inRangeFunc w.heap.size :: k)
 have hfr' : fr' = c.fr a (.inRangeFunc w.heap.size :: k) := rfl
 have hev : fr'.eval = a.eval := by rw [hfr', c.fr_eval]
 have hstep : stepG P true { frame := c.fr a (.code (.rangeFunc f params assign body) :: k), callers := cs, status := .running, dying := none } w =
   GStep.after (seen P c.fn ((Instr.enterLoop c.fn a.tmps params assign body (some L0)).runT P w #[]).2)
    (stepG.apply P true fr' cs none (do let d ← Deferred.ofValue fv #[yieldV w.heap.size]; invoke d.target d.args) w2) := by
  have e1 : ((Instr.enterLoop c.fn a.tmps params assign body (some L0)).runT P w #[]).1 = .ok (w.heap.size, []) w2 := by
   rw [Sem.runT_eq]; exact hrun
  simp only [stepG, stepG.exec, Ctx.fr, hcr]
  generalize hg : (Instr.enterLoop c.fn a.tmps params assign body (some L0)).runT P w #[] = g at e1
  obtain ⟨r, es⟩ := g
  simp only at e1
  subst e1
  simp only
  congr 1
  have : (do let d ← resolve fr'.eval { callee := Callee.value f, args := #[Operand.const (Value.func (Fn.yield w.heap.size) #[] #[])], argTypes := #[] } 0; invoke d.target d.args : Sem Next)
    = (do let d ← Deferred.ofValue fv #[yieldV w.heap.size]; invoke d.target d.args) := by
   rw [hev]
   simp only [resolve, hfe]
   rw [show Array.map a.eval #[Operand.const (Value.func (Fn.yield w.heap.size) #[] #[])] = #[yieldV w.heap.size] from by simp [Act.eval, yieldV]]
  rw [← this]
  have : fr' = { fn := c.fn, tmps := a.tmps, todo := .inRangeFunc w.heap.size :: k, defers := [] ++ a.defers, mode := .run, kind := c.kind, roundOf := some L0 } := by
   rw [← hcr]; rfl
  rw [this]
 have fin : ∀ v w3, (∃ lp, w3.heap[w.heap.size]? = some (.loop lp) ∧ (lp.state == .busy) = false ∧
    ∀ w4, Turned w3 w4 w.heap.size (.loop { lp with state := .exhausted }) → Run P c ((lp.pending.map Item.code).toList ++ k) Q a w4) →
   Steps P (lone (c.fr a (.code (.rangeFunc f params assign body) :: k)) cs w) (lone (fr'.finish v) cs w3) →
   ∃ o a' w', Q o a' w' ∧ Fin P (lone (c.fr a (.code (.rangeFunc f params assign body) :: k)) cs w) c cs o a' w' := by
  rintro v w3 ⟨lp, hl, hs, hk⟩ hst
  have hrunE : (Instr.endLoop w.heap.size).run P w3 = .ok lp.pending (World.setObj w3 w.heap.size (.loop { lp with state := .exhausted })) := by
   unfold Instr.endLoop
   rw [run_bind _ _ (run_getLoop hl)]
   rw [hs]
   simp only [Bool.false_eq_true, if_false]
   rw [run_bind _ _ (run_setObj hl (by intros; simp))]
   rfl
  obtain ⟨o, a', w', q, f'⟩ := hk _ (turned_setObj (lt_of_get hl)) cs
  refine ⟨o, a', w', q, Fin.of_steps (Steps.trans hst (.one (step_lone_go ?_))) f'⟩
  have e1 : ((Instr.endLoop w.heap.size).runT P w3 #[]).1 = .ok lp.pending (World.setObj w3 w.heap.size (.loop { lp with state := .exhausted })) := by
   rw [Sem.runT_eq]; exact hrunE
  simp only [stepG, stepG.exec, Ctx.fr, fr', Frame.finish]
  generalize hg : (Instr.endLoop w.heap.size).runT P w3 #[] = g at e1
  obtain ⟨r, es⟩ := g
  simp only at e1
  subst e1
  simp
 unfold FnV ExecE at hV
 split at hV
 ·rename_i nx w' hr
  have happ : ∀ st, (stepG.apply P true fr' cs none (do let d ← Deferred.ofValue fv #[yieldV w.heap.size]; invoke d.target d.args) w2).bare = st →
    (stepG P true { frame := c.fr a (.code (.rangeFunc f params assign body) :: k), callers := cs, status := .running, dying := none } w).bare = st := by
   intro st h1; rw [hstep, GStep.bare_after]; exact h1
  cases nx <;> simp only [Lands] at hV
  case value v =>
   refine fin v w' hV (.one (step_lone_go (happ _ ?_)))
   simp [stepG.apply, hr]
  case skip =>
   refine fin undef w' hV (.one (step_lone_go (happ _ ?_)))
   simp [stepG.apply, hr]
  case enter g args =>
   obtain ⟨e, w3, fr3, hR, hsteps, _, hleave⟩ := hV (fr' :: cs)
   have henter : _root_.Go.step P (lone (c.fr a (.code (.rangeFunc f params assign body) :: k)) cs w) = .next (lone (Frame.enter P g args .normal) (fr' :: cs) w') :=
    step_lone_go (happ _ (by simp [stepG.apply, hr, fr', Ctx.fr]))
   cases e with
   | returned v => exact fin v w3 hR (.head henter (Steps.trans hsteps (.one (step_leave_returned hleave))))
   | panicked ch => exact hR.elim
   | outgrown => exact hR.elim
  case round l g tmps assign' body' =>
   have henter : _root_.Go.step P (lone (c.fr a (.code (.rangeFunc f params assign body) :: k)) cs w) = .next (lone (Frame.round l g tmps assign' body' .normal) (fr' :: cs) w') :=
    step_lone_go (happ _ (by simp [stepG.apply, hr, fr', Ctx.fr]))
   rcases hV fr' cs with ⟨v, w3, hR, hs⟩ | ⟨ch, w3, hX, hs⟩
   ·exact fin v w3 hR (.head henter hs)
   ·exact hX.elim
 ·exact hV.elim
 ·exact hV.elim
def RoundL (L : Nat) (lp : Loop) (K : World → Prop) : Out → Act → World → Prop
 | .fall, _, w => K w ∧ w.heap[L]? = some (.loop { lp with state := .busy })
 | _, _, _ => False
theorem RunE.beginL {fn : FuncId} {kind : CallKind} {L : Nat} {lp : Loop} (hl : w.heap[L]? = some (.loop lp)) (hs : lp.state = .ready)
  (h : ∀ w', ExtB (· = L) w w' → w'.heap[L]? = some (.loop { lp with state := .busy }) → RunE P ⟨fn, kind, some L⟩ n ds k Q env w') : RunE P ⟨fn, kind, some L⟩ n ds (.beginRound :: k) Q env w :=
 .beginRound hl hs fun w' t => h w' t.ext t.at_
theorem RunE.endL {L : Nat} {lp : Loop} {K : World → Prop} (hK : K w) (hl : w.heap[L]? = some (.loop { lp with state := .busy })) : RunE P c n ds [] (RoundL L lp K) env w := .nil fun _ _ => ⟨hK, hl⟩
theorem RunE.rangeGivesIn {L0 : Nat} {lp0 : Loop} {f : Operand} {params : Array Tmp} {assign body : Code} {fv : Value} {xs : List (List Value)} {w0 : World} {F : Nat → Prop} (hc : c.round = some L0) (hL0 : w.heap[L0]? = some (.loop lp0)) (hfn : ∃ g, P.funcs[c.fn]? = some g)
  (hf : evO env f = some fv) (hG : Gives P fv xs w0 F) (S0 : Nat → Prop) (hF : ∀ k, F k → ¬ S0 k ∧ k < w.heap.size) (hX : ExtB S0 w0 w)
  (hlen : ∀ x ∈ xs, x.length = params.toList.length) (hp : params.toList.all (Nat.blt · n) = true) (J : Nat → World → Prop)
  (h0 : ∀ w2, Ext w w2 → w2.heap.size = w.heap.size + 1 → J 0 w2) (hJS : ∀ i w1, J i w1 → ExtB S0 w w1)
  (hJup : ∀ i w1 w2, J i w1 → ExtB (fun k => k = w.heap.size) w1 w2 → J i w2)
  (hb : ∀ i x w1 lp, xs[i]? = some x → J i w1 → w1.heap[w.heap.size]? = some (.loop lp) → lp.state = .ready →
   RunE P ⟨c.fn, .normal, some w.heap.size⟩ n [] [.code assign, .beginRound, .code body] (RoundL w.heap.size lp (J (i + 1))) (parEnv params.toList x env) w1)
  (h : ∀ w', J xs.length w' → RunE P c n ds k Q env w') :
  RunE P c n ds (.code (.rangeFunc f params assign body) :: k) Q env w := by
 refine RunE.rangeFuncIn hc hL0 hf fun a L w2 lp hst h2 hlp => ?_
 obtain rfl : L = w.heap.size := h2.eq
 have hX2 : Ext w w2 := h2.ext
 have hsz : w2.heap.size = w.heap.size + 1 := h2.size
 refine FnV.mono (hG (fun k => S0 k ∨ w.heap.size ≤ k) (fun i w' => J i w' ∧ w'.heap[w.heap.size]? = some (.loop lp)) (yieldV w.heap.size) w2 ?_ ⟨h0 w2 hX2 hsz, h2.at_⟩ ?_ ?_ ?_) ?_ (fun _ _ h => h)
 ·intro k hk hs
  have := hF k hk
  rcases hs with hs | hs
  ·exact this.1 hs
  ·omega
 ·rintro i w' ⟨hj, -⟩
  exact (hX.trans (hJS i w' hj)).mono fun k _ h => .inl h
 ·rintro i u u' ⟨hj, hl⟩ e
  exact ⟨hJup i u u' hj (ExtB.of_ext e), obj_ext hl e id⟩
 ·rintro i x u hx ⟨hj, hl⟩
  refine Yield.run (env := env) hl hfn hst (params := params.toList) (assign := assign) (body := body) (by simpa using hlp) (hlen x (List.mem_of_getElem? hx)) hp rfl ?_
  intro a' ha' cs
  obtain ⟨o, a1, u1, hq, hfin⟩ := hb i x u lp hx hj hl hlp.state a' ha' cs
  refine ⟨o, a1, u1, ?_, hfin⟩
  cases o with
  | fall =>
   obtain ⟨hK, hl1⟩ := hq
   refine ⟨_, hl1, fun u2 t2 => ⟨rfl, hJup _ _ _ hK t2.ext, ?_⟩⟩
   have := t2.at_
   rwa [show ({ ({ lp with state := .busy } : Loop) with state := .ready, pending := none } : Loop) = lp from hlp.back] at this
  | ret => exact hq.elim
  | exit id => exact hq.elim
  | panic ch => exact hq.elim
 ·rintro _ w3 ⟨hj, hl⟩
  refine ⟨lp, hl, by rw [hlp.state]; rfl, fun w4 t4 => ?_⟩
  rw [hlp.pending]
  exact h w4 (hJup _ _ _ hj t4.ext) a hst
end Go.Rn
end
section
set_option maxRecDepth 4000
namespace Go.Rn
open Go.RowKit
variable {P : Program} {c : Ctx} {k : List Item} {Q : Out → Act → World → Prop} {w : World} {n : Nat} {ds : List Deferred} {env : Env}
variable {ops : Array Oper} {d : Tmp} {op : Op} {ty : TypeId} {pos : String} {after : Array Edge} {guard : Option (Nat × Bool)} {rest : List Oper}

theorem RunL.execS {o : Oper} (hw : wantE ops.toList env o = some true) (hd : isDefer o.op = false) (hdst : dstOk n o.dst = true)
  (h : ∀ ρ : Operand → Value, (∀ x v, evO env x = some v → ρ x = v) →
   ExecE P (execOp ρ o) w (fun v w' => RunL P c n ds ops rest k Q (env.put o.dst v) w') (fun ch w' => ∀ a, St n ds env a → Q (.panic ch) a w')) :
  RunL P c n ds ops (o :: rest) k Q env w := fun i hi a ha => by
 obtain ⟨h1, h2⟩ := drop_cons hi
 rw [List.length_cons, List.range'_succ]
 refine Run.op (by simpa using h1) (wantE_ok ha hw) hd ?_
 refine (h a.eval (fun x v hx => ha.ev hx)).mono (fun v w' hr => ?_) (fun ch w' hq => hq a ha)
 exact hr (i + 1) h2 _ (ha.putO (dstOk_lt hdst) v)
theorem RunL.exS {R : Value → World → Prop} {X : List PanicEntry → World → Prop} (hw : wantE ops.toList env ⟨some d, op, ty, pos, after, guard⟩ = some true) (hdst : Nat.blt d n = true) (hd : isDefer op = false)
  (h : OpE P env w ⟨some d, op, ty, pos, after, guard⟩ R X) (hX : ∀ ch w' a, X ch w' → St n ds env a → Q (.panic ch) a w') (h' : ∀ v w', R v w' → RunL P c n ds ops rest k Q ((d, v) :: env) w') :
  RunL P c n ds ops (⟨some d, op, ty, pos, after, guard⟩ :: rest) k Q env w :=
 .execS hw hd hdst fun ρ hρ => (h ρ hρ).mono h' fun ch w' hx a ha => hX ch w' a hx ha
def defOf (g : FuncId) (vs : List Value) : Deferred := { target := .fn (.func g) #[], args := vs.toArray }
theorem RunL.defer {g : FuncId} {args : Array Operand} {ts : Array TypeId} {vs : List Value} (hr : c.round = none)
  (hw : wantE ops.toList env ⟨none, .defer ⟨.value (.func g), args, ts⟩, ty, pos, after, guard⟩ = some true) (ha : evL env args.toList = some vs)
  (h : RunL P c n (defOf g vs :: ds) ops rest k Q env w) : RunL P c n ds ops (⟨none, .defer ⟨.value (.func g), args, ts⟩, ty, pos, after, guard⟩ :: rest) k Q env w := fun i hi a hst => by
 obtain ⟨h1, h2⟩ := drop_cons hi
 have ho : ops[i]? = some ⟨none, .defer ⟨.value (.func g), args, ts⟩, ty, pos, after, guard⟩ := by simpa using h1
 have hwa := wantE_ok hst hw
 rw [List.length_cons, List.range'_succ]
 have hrun : (execOp a.eval ⟨none, .defer ⟨.value (.func g), args, ts⟩, ty, pos, after, guard⟩).run P w = .ok (.defer (defOf g vs)) w := by
  have := evL_mapA (ρ := a.eval) (fun x v hx => hst.ev hx) ha
  simp [execOp, resolve, Deferred.ofValue, this, defOf, Act.eval, Pure.pure, Sem.run, bind, Sem.bind]
 refine Run.step (fun cs => .one (step_lone_go ?_)) (h (i + 1) h2 { a with defers := defOf g vs :: a.defers } ⟨hst.size, by rw [hst.defers], hst.get⟩)
 have he := c.fr_eval a (.inRegion ops (i :: List.range' (i + 1) rest.length) :: k)
 simp only [Ctx.fr] at he
 have hf := Ctx.fr_finish c { a with defers := defOf g vs :: a.defers } ops i (List.range' (i + 1) rest.length) k undef
 rw [ho] at hf
 simp only [Option.bind_some, Act.put, Ctx.fr] at hf
 rw [hr] at he hf
 simp [stepG, stepG.exec, stepG.oper, Frame.oper?, Ctx.fr, ho, hwa, hr]
 rw [he]
 simp only [stepG.apply, Sem.runT_eq, hrun, GStep.bare_after]
 exact congrArg (fun fr => GStep.go { frame := fr, callers := cs, status := .running, dying := none } w) hf

theorem leaves_kit {fr : Frame} {fn : Func} {R : Value → World → Prop} {X : List PanicEntry → World → Prop} (hf : P.funcs[fr.fn]? = some fn) (hk : fr.kind = .normal)
  (h : Go.Leaves P fn fr.tmps (endP R X) fr.defers fr.mode w) : Leaves P fr R X w := fun cs => by
 obtain ⟨e, w', fr', hR, hc, h1, h2⟩ := leaves_steps fr.defers fr.mode w fr cs rfl rfl rfl hf hk h
 refine ⟨e, w', fr', hR, ?_, h1, h2⟩
 cases e with
 | returned v => exact hc
 | panicked ch => exact hc
 | outgrown => exact hR.elim

def Mends (P : Program) (g : FuncId) (vs : List Value) (u : FrameMode) (w : World) (R : FrameMode → World → Prop) : Prop :=
 CallsD P g vs.toArray u w fun e u' w' => (∃ v, e = .returned v) ∧ R (settle u') w'
theorem leaves_one {fn : Func} {tmps : Array Value} {g : FuncId} {vs : List Value} {u : FrameMode} {R : Value → World → Prop} {X : List PanicEntry → World → Prop} (hg : Body P g) (hu : u ≠ .run)
  (h : Mends P g vs u w fun u' w' => u' = .returning ∧ ∃ v, (results fn tmps).run P w' = .ok v w' ∧ R v w') : Go.Leaves P fn tmps (endP R X) [defOf g vs] u w := by
 refine ⟨hu, .func g, #[], g, vs.toArray, rfl, ?_, fun c0 cs hc => ?_⟩
 ·have := run_callFunc (P := P) (w := w) hg vs.toArray
  simpa [invoke, defOf] using this
 ·obtain ⟨e, u', w', fr, ⟨⟨v, rfl⟩, h1, v', h2, h3⟩, h4⟩ := h c0 cs hc
  refine ⟨.returned v, u', w', fr, ?_, h4⟩
  simp only
  rw [h1]
  exact ⟨v', h2, h3⟩
theorem RunE.retD {g : FuncId} {fn : Func} {q : FuncId} {vs : List Value} {R : Value → World → Prop} {X : List PanicEntry → World → Prop} (hf : P.funcs[g]? = some fn) (hq : Body P q)
  (h : Mends P q vs .returning w fun u' w' => u' = .returning ∧ ∃ rs, ResOk P w' env fn.results.toList rs ∧ R (oneOr rs) w') : RunE P c n [defOf q vs] (.code .ret :: k) (FnQ P g R X) env w :=
 .ret fun a ha todo => leaves_kit hf rfl (by
  simp only
  rw [ha.defers]
  refine leaves_one hq (by simp) fun c0 cs hc => ?_
  obtain ⟨e, u', w', fr, ⟨h0, h1, rs, h2, h3⟩, h4⟩ := h c0 cs hc
  exact ⟨e, u', w', fr, ⟨h0, h1, _, h2.resultsRun ha, h3⟩, h4⟩)
theorem FnQ.panicD {g : FuncId} {fn : Func} {q : FuncId} {vs : List Value} {ch : List PanicEntry} {a : Act} {R : Value → World → Prop} {X : List PanicEntry → World → Prop} (hf : P.funcs[g]? = some fn) (hq : Body P q) (ha : St n [defOf q vs] env a)
  (h : Mends P q vs (.panicking ch) w fun u' w' => u' = .returning ∧ ∃ rs, ResOk P w' env fn.results.toList rs ∧ R (oneOr rs) w') : FnQ P g R X (.panic ch) a w :=
 fun todo => leaves_kit hf rfl (by
  simp only
  rw [ha.defers]
  refine leaves_one hq (by simp) fun c0 cs hc => ?_
  obtain ⟨e, u', w', fr, ⟨h0, h1, rs, h2, h3⟩, h4⟩ := h c0 cs hc
  exact ⟨e, u', w', fr, ⟨h0, h1, _, h2.resultsRun ha, h3⟩, h4⟩)
end Go.Rn
end
section
set_option maxRecDepth 4000
namespace Go.Rn
open Go.RowKit
def RunAt (P : Program) (c : Ctx) (todo : List Item) (cs : List Frame) (Q : Out → Act → List Frame → World → Prop) (a : Act) (w : World) : Prop :=
 ∃ o a' cs' w', Q o a' cs' w' ∧ Fin P (lone (c.fr a todo) cs w) c cs' o a' w'
variable {P : Program} {c : Ctx} {k : List Item} {cs : List Frame} {Q : Out → Act → List Frame → World → Prop} {a : Act} {w : World}
theorem RunAt.of_run {todo : List Item} (h : Run P c todo (fun o a w => Q o a cs w) a w) : RunAt P c todo cs Q a w :=
 let ⟨o, a', w', q, f⟩ := h cs; ⟨o, a', cs, w', q, f⟩
theorem RunAt.steps {todo todo' : List Item} {cs' : List Frame} {a' : Act} {w' : World} (hs : Steps P (lone (c.fr a todo) cs w) (lone (c.fr a' todo') cs' w')) (h : RunAt P c todo' cs' Q a' w') : RunAt P c todo cs Q a w :=
 let ⟨o, a1, cs1, w1, q, f⟩ := h; ⟨o, a1, cs1, w1, q, f.of_steps hs⟩
theorem RunAt.seq {x y : Code} (h : RunAt P c (.code x :: .code y :: k) cs Q a w) : RunAt P c (.code (.seq x y) :: k) cs Q a w :=
 .steps (.one (step_lone_go (by simp [stepG, stepG.exec, Ctx.fr]))) h
theorem RunAt.region {id : Nat} {ops : Array Oper} (h : RunAt P c (.inRegion ops (List.range ops.size) :: k) cs Q a w) : RunAt P c (.code (.region id ops false) :: k) cs Q a w :=
 .steps (.one (step_lone_go (by simp [stepG, stepG.exec, Ctx.fr]))) h
theorem RunAt.recov {ops : Array Oper} {i : Nat} {rest : List Nat} {d : Tmp} {ts : Array TypeId} {ty : TypeId} {pos : String} {after : Array Edge} {v : Value} {cs' : List Frame} (ho : ops[i]? = some ⟨some d, .call ⟨.builtin .recover, #[], ts⟩, ty, pos, after, none⟩) (hk : c.kind = .deferred) (hro : c.round = none)
  (hr : (recoverD cs = some (v, cs')) ∨ (recoverD cs = none ∧ v = .nilIface ∧ cs' = cs)) (h : RunAt P c (.inRegion ops rest :: k) cs' Q (a.put (some d) v) w) : RunAt P c (.inRegion ops (i :: rest) :: k) cs Q a w := by
 have hw : Region.wanted ⟨some d, .call ⟨.builtin .recover, #[], ts⟩, ty, pos, after, none⟩ (yielded ops a.tmps) = true := rfl
 have hg := stepG_oper (P := P) (c := c) (k := k) (w := w) (rest := rest) (cs := cs) ho hw rfl
 have hf := Ctx.fr_finish c a ops i rest k v
 rw [ho] at hf
 simp only [Option.bind_some] at hf
 have hrun : (execOp a.eval ⟨some d, .call ⟨.builtin .recover, #[], ts⟩, ty, pos, after, none⟩).run P w = .ok .recover w := by
  simp [execOp, resolve, invoke, builtin, Pure.pure, Sem.run, bind, Sem.bind]
 have htr := tryRecover_deferred (fr := c.fr a (.inRegion ops (i :: rest) :: k)) hk cs
 have hro' : (c.fr a (.inRegion ops (i :: rest) :: k)).roundOf = none := hro
 refine .steps (.one (step_lone_go ?_)) h
 rw [hg, ← hf]
 rcases hr with hr | ⟨hr, rfl, rfl⟩
 ·simp [stepG.apply, hrun, htr, hr, hro']
 ·simp [stepG.apply, hrun, htr, hr, hro']
theorem callsD_of {f : FuncId} {fn : Func} {code : Code} {args : List Value} {u : FrameMode} {R : Ending → FrameMode → World → Prop} (hf : P.funcs[f]? = some fn) (hb : fn.body = some code)
  (h : ∀ (c0 : Frame) (cs : List Frame), c0.mode = u → RunAt P ⟨f, .deferred, none⟩ [.code code] (c0 :: cs) (fun o a cs' w' => (o = .fall ∨ o = .ret) ∧ a.defers = [] ∧ ∃ u', cs' = { c0 with mode := u' } :: cs ∧ ∃ v, (results fn a.tmps).run P w' = .ok v w' ∧ R (.returned v) u' w')
   { tmps := args.toArray ++ Array.replicate (fn.ntmps - args.toArray.size) undef, defers := [] } w) : CallsD P f args.toArray u w R := by
 intro c0 cs hu
 obtain ⟨o, a', cs', w', ⟨ho, hd, u', rfl, v, hr, hR⟩, hfin⟩ := h c0 cs hu
 have henter : Frame.enter P f args.toArray .deferred = (⟨f, .deferred, none⟩ : Ctx).fr { tmps := args.toArray ++ Array.replicate (fn.ntmps - args.toArray.size) undef, defers := [] } [.code code] := by
  simp [Frame.enter, Ctx.fr, hf, hb]
 rw [← henter] at hfin
 have fin : ∀ todo, Steps P (lone (Frame.enter P f args.toArray .deferred) (c0 :: cs) w) (lone { fn := f, tmps := a'.tmps, todo, defers := a'.defers, mode := .returning, kind := .deferred } ({ c0 with mode := u' } :: cs) w') →
   ∃ e u' w' fr, R e u' w' ∧ Comes P (lone (Frame.enter P f args.toArray .deferred) (c0 :: cs) w) (lone fr ({ c0 with mode := u' } :: cs) w') e ∧ fr.kind = .deferred ∧ fr.going P w' e :=
  fun todo hs => ⟨.returned v, u', w', _, hR, hs, rfl, rfl, hd, fn, hf, hr⟩
 rcases ho with rfl | rfl
 ·refine fin [] (Steps.trans hfin (.one (step_lone_go ?_)))
  simp [stepG, stepG.exec, Ctx.fr]
 ·obtain ⟨kk, hs⟩ := hfin
  refine fin (.code .ret :: kk) (Steps.trans hs (.one (step_lone_go ?_)))
  simp [stepG, stepG.exec, Ctx.fr]
end Go.Rn
end
section
set_option maxRecDepth 4000
namespace Go.Rn
open Go.RowKit
variable {P : Program} {c : Ctx} {k : List Item} {Q : Out → Act → World → Prop} {w : World} {n : Nat} {ds : List Deferred} {env : Env}
variable {ops : Array Oper} {d : Tmp} {dst : Option Tmp} {op : Op} {ty : TypeId} {pos : String} {after : Array Edge} {guard : Option (Nat × Bool)} {rest : List Oper}
def panOf (t : TypeId) (v : Value) : List PanicEntry := [{ v := .iface t v, recovered := false }]
theorem OpE.panic {x : Operand} {t : TypeId} {v : Value} (hx : evO env x = some (.iface t v)) :
  OpE P env w ⟨dst, .panic x, ty, pos, after, guard⟩ (fun _ _ => False) fun ch w' => ch = panOf t v ∧ w' = w := fun ρ hρ => by
 unfold ExecE
 simp only [execOp, hρ _ _ hx]
 exact ⟨rfl, rfl⟩
theorem FnQ.panic0 {g : FuncId} {fn : Func} {ch : List PanicEntry} {a : Act} {R : Value → World → Prop} {X : List PanicEntry → World → Prop} (hf : P.funcs[g]? = some fn) (ha : St n [] env a) (h : X ch w) : FnQ P g R X (.panic ch) a w :=
 fun todo => leaves_kit hf rfl (by simp only; rw [ha.defers]; exact h)
theorem RunL.panicN {g : FuncId} {fn : Func} {x : Operand} {t : TypeId} {v : Value} {R : Value → World → Prop} {X : List PanicEntry → World → Prop} (hf : P.funcs[g]? = some fn)
  (hw : wantE ops.toList env ⟨dst, .panic x, ty, pos, after, guard⟩ = some true) (hdst : dstOk n dst = true) (hx : evO env x = some (.iface t v)) (h : X (panOf t v) w) :
  RunL P c n [] ops (⟨dst, .panic x, ty, pos, after, guard⟩ :: rest) k (FnQ P g R X) env w :=
 .execS hw rfl hdst fun ρ hρ => (OpE.panic (dst := dst) (ty := ty) (pos := pos) (after := after) (guard := guard) hx ρ hρ).mono (fun _ _ h => h.elim) (by rintro ch w' ⟨rfl, rfl⟩ a ha; exact FnQ.panic0 hf ha h)
theorem OpV.neNilI {t u : TypeId} {x y : Operand} {s : TypeId} {v : Value} {ms : Array (String × TypeId)} (ht : P.underlying t = some (.interface ms)) (hx : evO env x = some (.iface s v)) (hy : evO env y = some .nilIface) :
  OpV P env w ⟨dst, .binOp .neq t x y u, ty, pos, after, guard⟩ (.bool true) := .of_run fun ρ hρ => by
 refine ⟨_, by simp only [execOp, hρ _ _ hx, hρ _ _ hy]; rfl, ?_⟩
 rw [run_bind _ _ (run_eqGuard_plain (P := P) (w := w) .neq t x y (by intro c; simp) (by simp))]
 simp only [binOp]
 have : (Op.equal t (.iface s v) .nilIface).run P w = .ok false w := by
  unfold Op.equal; rw [show Op.maxDepth = 9999 + 1 from rfl, Op.equalIn, run_bind _ _ (run_underlying ht)]; rfl
 rw [run_bind _ _ this]; rfl
theorem OpV.neNilN {t u : TypeId} {x : Operand} {ms : Array (String × TypeId)} (ht : P.underlying t = some (.interface ms)) (hx : evO env x = some .nilIface) :
  OpV P env w ⟨dst, .binOp .neq t x (.const .nilIface) u, ty, pos, after, guard⟩ (.bool false) := .of_run fun ρ hρ => by
 refine ⟨_, by simp only [execOp, hρ _ _ hx, hρ (.const .nilIface) .nilIface rfl]; rfl, ?_⟩
 have hg : (eqGuard .neq t x (.const .nilIface) .nilIface .nilIface).run P w = .ok () w := by
  unfold eqGuard
  simp [Sem.run, Pure.pure]
 rw [run_bind _ _ hg]
 simp only [binOp]
 have : (Op.equal t .nilIface .nilIface).run P w = .ok true w := by
  unfold Op.equal; rw [show Op.maxDepth = 9999 + 1 from rfl, Op.equalIn, run_bind _ _ (run_underlying ht)]; rfl
 rw [run_bind _ _ this]; rfl
theorem argSt {nm nt : Nat} {args : List Value} (hn : nm = nt) (hle : args.length ≤ nt) : St nt [] (argEnv 0 args) { tmps := args.toArray ++ Array.replicate (nm - args.toArray.size) undef, defers := [] } := by
 subst hn
 refine ⟨by simp; omega, rfl, fun t v hv => ?_⟩
 obtain ⟨_, h2⟩ := argEnv_get _ _ _ _ hv
 have h2' : args[t]? = some v := by simpa using h2
 have hlt : t < args.length := by
  rcases Nat.lt_or_ge t args.length with h' | h'
  ·exact h'
  ·rw [List.getElem?_eq_none h'] at h2'; simp at h2'
 rw [Array.getElem?_append_left (by simpa using hlt)]
 simpa using h2'
theorem RunAt.body {n : Nat} {ds : List Deferred} {env : Env} {ops : Array Oper} {i : Nat} {rest : List Oper} {cs : List Frame} {Q : Out → Act → List Frame → World → Prop} {a : Act} (hst : St n ds env a) (hi : ops.toList.drop i = rest)
  (h : RunL P c n ds ops rest k (fun o a w => Q o a cs w) env w) : RunAt P c (.inRegion ops (List.range' i rest.length) :: k) cs Q a w :=
 .of_run (h i hi a hst)
end Go.Rn
end
section
set_option maxRecDepth 4000
namespace Go.Rn
open Go.RowKit
variable {P : Program} {c : Ctx} {k : List Item} {Q : Out → Act → World → Prop} {w : World} {n : Nat} {ds : List Deferred} {env : Env}
theorem RunE.rangeFuncX {f : Operand} {params : Array Tmp} {assign body : Code} {fv : Value} (hc : c.round = none) (hf : evO env f = some fv)
  (h : ∀ a D L w1 w2 lp, St n ds env a → Added w w1 D (.deferred (some [])) → Added w1 w2 L (.loop lp) → LpOk lp c.fn a params assign body →
   FnV P fv [yieldV L] w2 (fun _ w3 => ∃ lp, w3.heap[L]? = some (.loop lp) ∧ (lp.state == .busy) = false ∧
    ∀ w4, Turned w3 w4 L (.loop { lp with state := .exhausted }) → Run P c ((lp.pending.map Item.code).toList ++ k) Q { a with defers := markOf D :: a.defers } w4) (fun ch w3 => Q (.panic ch) { a with defers := markOf D :: a.defers } w3)) :
  RunE P c n ds (.code (.rangeFunc f params assign body) :: k) Q env w := fun a ha cs => by
 obtain ⟨cf, ck, cr⟩ := c
 simp only at hc
 subst hc
 generalize hcc : (⟨cf, ck, none⟩ : Ctx) = c at *
 have hcr : c.round = none := by rw [← hcc]
 have hfe : a.eval f = fv := ha.ev hf
 let w1 : World := { w with heap := w.heap.push (.deferred (some [])) }
 let lp0 : Loop := { state := .ready, pending := none, fn := c.fn, tmps := a.tmps, params, assign, body, defers := w.heap.size }
 let w2 : World := { w1 with heap := w1.heap.push (.loop lp0) }
 have hrun : (Instr.enterLoop c.fn a.tmps params assign body none).run P w = .ok (w1.heap.size, [markOf w.heap.size]) w2 := rfl
 have hV := h a w.heap.size w1.heap.size w1 w2 lp0 ha (added_push w _) (added_push w1 _) ⟨rfl, rfl, rfl, rfl, rfl, rfl, rfl⟩
 -- the call
 let fr' : Frame := { c.fr a (.inRangeFunc w1.heap.size :: k) with defers := markOf w.heap.size :: a.defers }
 have hfr' : fr' = c.fr { a with defers := markOf w.heap.size :: a.defers } (.inRangeFunc w1.heap.size :: k) := rfl
 have hev : fr'.eval = a.eval := by rw [hfr', c.fr_eval]; funext x; cases x <;> rfl
 have hstep : stepG P true { frame := c.fr a (.code (.rangeFunc f params assign body) :: k), callers := cs, status := .running, dying := none } w =
   GStep.after (seen P c.fn ((Instr.enterLoop c.fn a.tmps params assign body none).runT P w #[]).2)
    (stepG.apply P true fr' cs none (do let d ← Deferred.ofValue fv #[yieldV w1.heap.size]; invoke d.target d.args) w2) := by
  have e1 : ((Instr.enterLoop c.fn a.tmps params assign body none).runT P w #[]).1 = .ok (w1.heap.size, [markOf w.heap.size]) w2 := by
   rw [Sem.runT_eq]; exact hrun
  simp only [stepG, stepG.exec, Ctx.fr, hcr]
  generalize hg : (Instr.enterLoop c.fn a.tmps params assign body none).runT P w #[] = g at e1
  obtain ⟨r, es⟩ := g
  simp only at e1
  subst e1
  simp only
  congr 1
  have : (do let d ← resolve fr'.eval { callee := Callee.value f, args := #[Operand.const (Value.func (Fn.yield w1.heap.size) #[] #[])], argTypes := #[] } 0; invoke d.target d.args : Sem Next)
    = (do let d ← Deferred.ofValue fv #[yieldV w1.heap.size]; invoke d.target d.args) := by
   rw [hev]
   simp only [resolve, hfe]
   rw [show Array.map a.eval #[Operand.const (Value.func (Fn.yield w1.heap.size) #[] #[])] = #[yieldV w1.heap.size] from by simp [Act.eval, yieldV]]
  rw [← this]
  have : fr' = { fn := c.fn, tmps := a.tmps, todo := .inRangeFunc w1.heap.size :: k, defers := [markOf w.heap.size] ++ a.defers, mode := .run, kind := c.kind, roundOf := none } := by
   rw [← hcr]; rfl
  rw [this]
 have fin : ∀ v w3, (∃ lp, w3.heap[w1.heap.size]? = some (.loop lp) ∧ (lp.state == .busy) = false ∧
    ∀ w4, Turned w3 w4 w1.heap.size (.loop { lp with state := .exhausted }) → Run P c ((lp.pending.map Item.code).toList ++ k) Q { a with defers := markOf w.heap.size :: a.defers } w4) →
   Steps P (lone (c.fr a (.code (.rangeFunc f params assign body) :: k)) cs w) (lone (fr'.finish v) cs w3) →
   ∃ o a' w', Q o a' w' ∧ Fin P (lone (c.fr a (.code (.rangeFunc f params assign body) :: k)) cs w) c cs o a' w' := by
  rintro v w3 ⟨lp, hl, hs, hk⟩ hst
  have hrunE : (Instr.endLoop w1.heap.size).run P w3 = .ok lp.pending (World.setObj w3 w1.heap.size (.loop { lp with state := .exhausted })) := by
   unfold Instr.endLoop
   rw [run_bind _ _ (run_getLoop hl)]
   rw [hs]
   simp only [Bool.false_eq_true, if_false]
   rw [run_bind _ _ (run_setObj hl (by intros; simp))]
   rfl
  obtain ⟨o, a', w', q, f'⟩ := hk _ (turned_setObj (lt_of_get hl)) cs
  refine ⟨o, a', w', q, Fin.of_steps (Steps.trans hst (.one (step_lone_go ?_))) f'⟩
  have e1 : ((Instr.endLoop w1.heap.size).runT P w3 #[]).1 = .ok lp.pending (World.setObj w3 w1.heap.size (.loop { lp with state := .exhausted })) := by
   rw [Sem.runT_eq]; exact hrunE
  simp only [stepG, stepG.exec, Ctx.fr, fr', Frame.finish]
  generalize hg : (Instr.endLoop w1.heap.size).runT P w3 #[] = g at e1
  obtain ⟨r, es⟩ := g
  simp only at e1
  subst e1
  simp
 unfold FnV ExecE at hV
 split at hV
 ·rename_i nx w' hr
  have happ : ∀ st, (stepG.apply P true fr' cs none (do let d ← Deferred.ofValue fv #[yieldV w1.heap.size]; invoke d.target d.args) w2).bare = st →
    (stepG P true { frame := c.fr a (.code (.rangeFunc f params assign body) :: k), callers := cs, status := .running, dying := none } w).bare = st := by
   intro st h1; rw [hstep, GStep.bare_after]; exact h1
  cases nx <;> simp only [Lands] at hV
  case value v =>
   refine fin v w' hV (.one (step_lone_go (happ _ ?_)))
   simp [stepG.apply, hr]
  case skip =>
   refine fin undef w' hV (.one (step_lone_go (happ _ ?_)))
   simp [stepG.apply, hr]
  case enter g args =>
   obtain ⟨e, w3, fr3, hR, hsteps, _, hleave⟩ := hV (fr' :: cs)
   have henter : _root_.Go.step P (lone (c.fr a (.code (.rangeFunc f params assign body) :: k)) cs w) = .next (lone (Frame.enter P g args .normal) (fr' :: cs) w') :=
    step_lone_go (happ _ (by simp [stepG.apply, hr, fr', Ctx.fr]))
   cases e with
   | returned v => exact fin v w3 hR (.head henter (Steps.trans hsteps (.one (step_leave_returned hleave))))
   | panicked ch =>
    refine ⟨.panic ch, { a with defers := markOf w.heap.size :: a.defers }, w3, hR, .inRangeFunc w1.heap.size :: k, .head henter (Steps.trans hsteps (.one ?_))⟩
    exact step_leave_panicked hleave
   | outgrown => exact hR.elim
  case round l g tmps assign' body' =>
   have henter : _root_.Go.step P (lone (c.fr a (.code (.rangeFunc f params assign body) :: k)) cs w) = .next (lone (Frame.round l g tmps assign' body' .normal) (fr' :: cs) w') :=
    step_lone_go (happ _ (by simp [stepG.apply, hr, fr', Ctx.fr]))
   rcases hV fr' cs with ⟨v, w3, hR, hs⟩ | ⟨ch, w3, hX, hs⟩
   ·exact fin v w3 hR (.head henter hs)
   ·exact ⟨.panic ch, { a with defers := markOf w.heap.size :: a.defers }, w3, hX, .inRangeFunc w1.heap.size :: k, .head henter hs⟩
 ·rename_i v w' hr
  refine ⟨_, { a with defers := markOf w.heap.size :: a.defers }, w', hV, .inRangeFunc w1.heap.size :: k, .one (step_lone_go ?_)⟩
  rw [hstep, GStep.bare_after]
  simp [stepG.apply, hr, Frame.raise, Ctx.fr, fr']
 ·exact hV.elim

theorem Leaves.markP {g : FuncId} {tmps : Array Value} {todo : List Item} {D : Nat} {ds : List Deferred} {kind : CallKind} {ch : List PanicEntry} {R : Value → World → Prop} {X : List PanicEntry → World → Prop}
  (hD : w.heap[D]? = some (.deferred (some []))) (h : ∀ w', Turned w w' D (.deferred none) → Leaves P { fn := g, tmps, todo, defers := ds, mode := .panicking ch, kind } R X w') :
  Leaves P { fn := g, tmps, todo, defers := markOf D :: ds, mode := .panicking ch, kind } R X w := fun cs => by
 obtain ⟨e, w', fr', h1, h2, h3, h4⟩ := h _ (turned_setObj (lt_of_get hD)) cs
 refine ⟨e, w', fr', h1, .head (step_lone_go ?_) h2, h3, h4⟩
 have hrun : (Instr.takeDeferred D).run P w = .ok [] (World.setObj w D (.deferred none)) := by
  unfold Instr.takeDeferred
  rw [run_bind _ _ (run_getObj hD (by intros; simp))]
  simp only
  rw [run_bind _ _ (run_setObj hD (by intros; simp))]
  rfl
 have e1 : ((Instr.takeDeferred D).runT P w #[]).1 = .ok [] (World.setObj w D (.deferred none)) := by
  rw [Sem.runT_eq]; exact hrun
 simp only [stepG, unwind, markOf]
 generalize hg : (Instr.takeDeferred D).runT P w #[] = gg at e1
 obtain ⟨r, es⟩ := gg
 simp only at e1
 subst e1
 simp
theorem Leaves.marksP {g : FuncId} {tmps : Array Value} {todo : List Item} {kind : CallKind} {ch : List PanicEntry} {R : Value → World → Prop} {X : List PanicEntry → World → Prop} : ∀ (Ds : List Nat) {w : World}, (∀ D ∈ Ds, w.heap[D]? = some (.deferred (some []))) → Ds.Nodup →
  (∀ w', ExtB (· ∈ Ds) w w' → Leaves P { fn := g, tmps, todo, defers := [], mode := .panicking ch, kind } R X w') → Leaves P { fn := g, tmps, todo, defers := Ds.map markOf, mode := .panicking ch, kind } R X w
 | [], w, _, _, h => h w (ExtB.refl _ _)
 | D :: Ds, w, hD, hn, h => by
  have hn' := List.nodup_cons.1 hn
  refine Leaves.markP (hD D List.mem_cons_self) fun w' t => Leaves.marksP Ds (fun D' hD' => ?_) hn'.2 fun w'' e => h w'' ?_
  ·exact obj_ext (hD D' (List.mem_cons_of_mem _ hD')) t.ext (fun e => hn'.1 (e ▸ hD'))
  ·exact (t.ext.mono fun k _ h => by subst h; exact List.mem_cons_self).trans (e.mono fun k _ h => List.mem_cons_of_mem _ h)
theorem FnQ.panicM {g : FuncId} {fn : Func} {ch : List PanicEntry} {a : Act} {R : Value → World → Prop} {X : List PanicEntry → World → Prop} (Ds : List Nat) (hf : P.funcs[g]? = some fn) (ha : a.defers = Ds.map markOf) (hD : ∀ D ∈ Ds, w.heap[D]? = some (.deferred (some []))) (hn : Ds.Nodup)
  (h : ∀ w', ExtB (· ∈ Ds) w w' → X ch w') : FnQ P g R X (.panic ch) a w :=
 fun todo => by
  rw [ha]
  exact Leaves.marksP Ds hD hn fun w' e => leaves_kit hf rfl (h w' e)
theorem RunE.fallFnM {g : FuncId} {fn : Func} (Ds : List Nat) {R : Value → World → Prop} {X : List PanicEntry → World → Prop} (hf : P.funcs[g]? = some fn) (hD : ∀ D ∈ Ds, w.heap[D]? = some (.deferred (some []))) (hn : Ds.Nodup)
  (h : ∀ w', ExtB (· ∈ Ds) w w' → ∃ vs, ResOk P w' env fn.results.toList vs ∧ R (oneOr vs) w') : RunE P c n (Ds.map markOf) [] (FnQ P g R X) env w :=
 .nil fun a ha todo => by
  rw [ha.defers]
  refine Leaves.marks Ds hD hn fun w' ht => ?_
  obtain ⟨vs, h1, h2⟩ := h w' ht
  exact Leaves.ret hf (h1.resultsRun ha) h2
def GivesX (P : Program) (f : Value) (xs : List (List Value)) (w0 : World) (F : Nat → Prop) : Prop :=
 ∀ (S : Nat → Prop) (J : Nat → World → Prop) (Z : World → Prop) (X : List PanicEntry → World → Prop) (y : Value) (w : World), y.cells = #[y] → (∀ k, F k → ¬ S k) → (∀ k, S k → k < w.heap.size) → ExtB S w0 w → J 0 w →
  (∀ i w1 w2, J i w1 → ExtB (fun k => w.heap.size ≤ k) w1 w2 → J i w2) → (∀ w1 w2, Z w1 → ExtB (fun k => w.heap.size ≤ k) w1 w2 → Z w2) → (∀ ch w1 w2, X ch w1 → ExtB (fun k => w.heap.size ≤ k) w1 w2 → X ch w2) →
  (∀ i x w1, xs[i]? = some x → J i w1 → ExtB S w w1 → FnV P y x w1 (fun r w2 => ((r = .bool true ∧ J (i + 1) w2) ∨ (r = .bool false ∧ Z w2)) ∧ ExtB S w1 w2) fun ch w2 => X ch w2 ∧ ExtB S w1 w2) →
  FnV P f [y] w (fun _ w' => (J xs.length w' ∨ Z w') ∧ ExtB S w w') fun ch w' => X ch w' ∧ ExtB S w w'
def RoundX (L D : Nat) (lp : Loop) (K Z : World → Prop) (B : Nat → World → Prop) (X : List PanicEntry → World → Prop) : Out → Act → World → Prop
 | .fall, _, w => K w ∧ LoopAt w L D { lp with state := .busy }
 | .ret, _, w => Z w ∧ LoopAt w L D { lp with state := .busy }
 | .exit id, _, w => B id w ∧ LoopAt w L D { lp with state := .busy }
 | .panic ch, a, w => a.defers = [] ∧ X ch w ∧ w.heap[D]? = some (.deferred (some []))
theorem RunE.endX {L D : Nat} {lp : Loop} {K Z : World → Prop} {B : Nat → World → Prop} {X : List PanicEntry → World → Prop} (hK : K w) (hl : LoopAt w L D { lp with state := .busy }) : RunE P c n ds [] (RoundX L D lp K Z B X) env w := .nil fun _ _ => ⟨hK, hl⟩
theorem RunE.stopX {L D : Nat} {lp : Loop} {K Z : World → Prop} {B : Nat → World → Prop} {X : List PanicEntry → World → Prop} (hZ : Z w) (hl : LoopAt w L D { lp with state := .busy }) : RunE P c n ds (.code .ret :: k) (RoundX L D lp K Z B X) env w := .ret fun _ _ => ⟨hZ, hl⟩
theorem RunE.rangeGivesX {f : Operand} {params : Array Tmp} {assign body : Code} {fv : Value} {xs : List (List Value)} {w0 : World} {F : Nat → Prop} (hc : c.round = none) (hfn : ∃ g, P.funcs[c.fn]? = some g)
  (hf : evO env f = some fv) (hG : GivesX P fv xs w0 F) (S0 : Nat → Prop) (hF : ∀ k, F k → ¬ S0 k ∧ k < w.heap.size) (hS0 : ∀ k, S0 k → k < w.heap.size) (hX : ExtB S0 w0 w)
  (hlen : ∀ x ∈ xs, x.length = params.toList.length) (hp : params.toList.all (Nat.blt · n) = true) (J : Nat → World → Prop) (Z : World → Prop) (B : Nat → World → Prop) (X : List PanicEntry → World → Prop)
  (h0 : J 0 w)
  (hJup : ∀ i w1 w2, J i w1 → ExtB (fun k => w.heap.size ≤ k) w1 w2 → J i w2)
  (hZup : ∀ w1 w2, Z w1 → ExtB (fun k => w.heap.size ≤ k) w1 w2 → Z w2)
  (hBup : ∀ id w1 w2, B id w1 → ExtB (fun k => w.heap.size ≤ k) w1 w2 → B id w2)
  (hXup : ∀ ch w1 w2, X ch w1 → ExtB (fun k => w.heap.size ≤ k) w1 w2 → X ch w2)
  (hb : ∀ i x w1 lp, xs[i]? = some x → J i w1 → ExtB S0 w w1 → LoopAt w1 (w.heap.size + 1) w.heap.size lp → lp.state = .ready → w.heap.size + 2 ≤ w1.heap.size →
   RunE P ⟨c.fn, .normal, some (w.heap.size + 1)⟩ n [] [.code assign, .beginRound, .code body]
    (RoundX (w.heap.size + 1) w.heap.size lp (fun w2 => J (i + 1) w2 ∧ ExtB (fun k => S0 k ∨ k = w.heap.size + 1) w1 w2) (fun w2 => Z w2 ∧ ExtB (fun k => S0 k ∨ k = w.heap.size + 1) w1 w2) (fun id w2 => B id w2 ∧ ExtB (fun k => S0 k ∨ k = w.heap.size + 1) w1 w2) (fun ch w2 => X ch w2 ∧ ExtB (fun k => S0 k ∨ k = w.heap.size + 1) w1 w2)) (parEnv params.toList x env) w1)
  (h : ∀ w', J xs.length w' → ExtB S0 w w' → w'.heap[w.heap.size]? = some (.deferred (some [])) → RunE P c n (markOf w.heap.size :: ds) k Q env w')
  (h' : ∀ w', Z w' → ExtB S0 w w' → w'.heap[w.heap.size]? = some (.deferred (some [])) → RunE P c n (markOf w.heap.size :: ds) (.code .ret :: k) Q env w')
  (h2 : ∀ id w', B id w' → ExtB S0 w w' → w'.heap[w.heap.size]? = some (.deferred (some [])) → RunE P c n (markOf w.heap.size :: ds) (.code (.exit id) :: k) Q env w')
  (h3 : ∀ ch w' a, X ch w' → ExtB S0 w w' → w'.heap[w.heap.size]? = some (.deferred (some [])) → St n (markOf w.heap.size :: ds) env a → Q (.panic ch) a w') :
  RunE P c n ds (.code (.rangeFunc f params assign body) :: k) Q env w := by
 refine RunE.rangeFuncX hc hf fun a D L w1 w2 lp hst h1 h2_ hlp => ?_
 obtain rfl : D = w.heap.size := h1.eq
 have e2 := h2_.eq
 rw [h1.size] at e2
 subst e2
 have hX2 : Ext w w2 := h1.ext.trans h2_.ext
 have hL2 : LoopAt w2 (w.heap.size + 1) w.heap.size lp := ⟨h2_.at_, obj_ext h1.at_ h2_.ext id⟩
 have hsz : w2.heap.size = w.heap.size + 2 := h2_.size
 have hst' : St n (markOf w.heap.size :: ds) env { a with defers := markOf w.heap.size :: a.defers } := ⟨hst.size, by rw [hst.defers], hst.get⟩
 have up : ∀ {u u' : World} {G : Nat → Prop}, ExtB S0 w u → ExtB G u u' → (∀ k, G k → S0 k ∨ w.heap.size ≤ k) → ExtB S0 w u' := fun e1 e2 hG => e1.write e2 fun i hi hlt => by rcases hG i hi with h | h; exact h; omega
 refine FnV.mono (hG (fun k => S0 k ∨ k = w.heap.size + 1) (fun i w' => (J i w' ∧ ExtB S0 w w') ∧ LoopAt w' (w.heap.size + 1) w.heap.size lp)
  (fun w' => (Z w' ∧ ExtB S0 w w' ∧ LoopAt w' (w.heap.size + 1) w.heap.size { lp with state := .done, pending := some .ret }) ∨ ∃ id, B id w' ∧ ExtB S0 w w' ∧ LoopAt w' (w.heap.size + 1) w.heap.size { lp with state := .done, pending := some (.exit id) })
  (fun ch w' => X ch w' ∧ ExtB S0 w w' ∧ w'.heap[w.heap.size]? = some (.deferred (some []))) (yieldV (w.heap.size + 1)) w2 rfl ?_ ?_ ?_ ⟨⟨hJup _ _ _ h0 (ExtB.of_ext hX2), ExtB.of_ext hX2⟩, hL2⟩ ?_ ?_ ?_ ?_) ?_ ?_
 ·intro k hk hs
  have := hF k hk
  rcases hs with hs | hs
  ·exact this.1 hs
  ·omega
 ·rintro k (hk | hk)
  ·have := hS0 k hk; omega
  ·omega
 ·exact (hX.trans (ExtB.of_ext hX2)).mono fun k _ h => .inl h
 ·rintro i u u' ⟨⟨hj, hu⟩, hl⟩ e
  exact ⟨⟨hJup i u u' hj (e.mono fun k _ h => by have h' : w2.heap.size ≤ k := h; omega), up hu e fun k h => .inr (by have h' : w2.heap.size ≤ k := h; omega)⟩, hl.ext e (fun h => by have h' : w2.heap.size ≤ _ := h; omega) (fun h => by have h' : w2.heap.size ≤ _ := h; omega)⟩
 ·rintro u u' (⟨hj, hu, hl⟩ | ⟨id, hj, hu, hl⟩) e
  ·exact .inl ⟨hZup u u' hj (e.mono fun k _ h => by have h' : w2.heap.size ≤ k := h; omega), up hu e fun k h => .inr (by have h' : w2.heap.size ≤ k := h; omega), hl.ext e (fun h => by have h' : w2.heap.size ≤ _ := h; omega) (fun h => by have h' : w2.heap.size ≤ _ := h; omega)⟩
  ·exact .inr ⟨id, hBup id u u' hj (e.mono fun k _ h => by have h' : w2.heap.size ≤ k := h; omega), up hu e fun k h => .inr (by have h' : w2.heap.size ≤ k := h; omega), hl.ext e (fun h => by have h' : w2.heap.size ≤ _ := h; omega) (fun h => by have h' : w2.heap.size ≤ _ := h; omega)⟩
 ·rintro ch u u' ⟨hj, hu, hl⟩ e
  exact ⟨hXup ch u u' hj (e.mono fun k _ h => by have h' : w2.heap.size ≤ k := h; omega), up hu e fun k h => .inr (by have h' : w2.heap.size ≤ k := h; omega), obj_ext hl e (fun h => by have h' : w2.heap.size ≤ _ := h; omega)⟩
 ·rintro i x u hx ⟨⟨hj, hu⟩, hl⟩ eS
  refine FnV.mono (R := fun r w4 => (∃ w3, ExtB (fun k => S0 k ∨ k = w.heap.size + 1) u w3 ∧ ExtB (· = w.heap.size + 1) w3 w4 ∧ ((r = .bool true ∧ J (i + 1) w3 ∧ LoopAt w4 (w.heap.size + 1) w.heap.size lp) ∨ (r = .bool false ∧ ((Z w3 ∧ LoopAt w4 (w.heap.size + 1) w.heap.size { lp with state := .done, pending := some .ret }) ∨ ∃ id, B id w3 ∧ LoopAt w4 (w.heap.size + 1) w.heap.size { lp with state := .done, pending := some (.exit id) })))))
   (X := fun ch w3 => X ch w3 ∧ ExtB (fun k => S0 k ∨ k = w.heap.size + 1) u w3 ∧ w3.heap[w.heap.size]? = some (.deferred (some []))) ?_ ?_ ?_
  ·refine Yield.run (env := env) hl.l hfn hst (params := params.toList) (assign := assign) (body := body) (by simpa using hlp) (hlen x (List.mem_of_getElem? hx)) hp rfl ?_
   intro a' ha' cs
   obtain ⟨o, a1, u1, hq, hfin⟩ := hb i x u lp hx hj hu hl hlp.state (by have := eS.size; omega) a' ha' cs
   refine ⟨o, a1, u1, ?_, hfin⟩
   cases o with
   | fall =>
    obtain ⟨⟨hK, hE⟩, hl1⟩ := hq
    refine ⟨_, hl1.l, fun u2 t2 => ⟨u1, hE, t2.ext, .inl ⟨rfl, hK, ?_, obj_ext hl1.d t2.ext (by omega)⟩⟩⟩
    have := t2.at_
    rwa [show ({ ({ lp with state := .busy } : Loop) with state := .ready, pending := none } : Loop) = lp from hlp.back] at this
   | ret =>
    obtain ⟨⟨hK, hE⟩, hl1⟩ := hq
    exact ⟨_, hl1.l, fun u2 t2 => ⟨u1, hE, t2.ext, .inr ⟨rfl, .inl ⟨hK, t2.at_, obj_ext hl1.d t2.ext (by omega)⟩⟩⟩⟩
   | exit id =>
    obtain ⟨⟨hK, hE⟩, hl1⟩ := hq
    exact ⟨_, hl1.l, fun u2 t2 => ⟨u1, hE, t2.ext, .inr ⟨rfl, .inr ⟨id, hK, t2.at_, obj_ext hl1.d t2.ext (by omega)⟩⟩⟩⟩
   | panic ch => exact ⟨hq.1, hq.2.1.1, hq.2.1.2, hq.2.2⟩
  ·rintro r w4 ⟨w3, e3, e4, h⟩
   have eu : ExtB S0 w w4 := up (up hu e3 fun k h => by rcases h with h | h; exact .inl h; exact .inr (by omega)) e4 fun k h => .inr (by have h' : k = _ := h; omega)
   refine ⟨?_, e3.trans (e4.mono fun k _ h => .inr h)⟩
   rcases h with ⟨rfl, hK, hl1⟩ | ⟨rfl, ⟨hK, hl1⟩ | ⟨id, hK, hl1⟩⟩
   ·exact .inl ⟨rfl, ⟨hJup _ _ _ hK (e4.mono fun k _ h => by have h' : k = _ := h; omega), eu⟩, hl1⟩
   ·exact .inr ⟨rfl, .inl ⟨hZup _ _ hK (e4.mono fun k _ h => by have h' : k = _ := h; omega), eu, hl1⟩⟩
   ·exact .inr ⟨rfl, .inr ⟨id, hBup _ _ _ hK (e4.mono fun k _ h => by have h' : k = _ := h; omega), eu, hl1⟩⟩
  ·rintro ch w3 ⟨hx, e3, hd⟩
   exact ⟨⟨hx, up hu e3 fun k h => by rcases h with h | h; exact .inl h; exact .inr (by omega), hd⟩, e3⟩
 ·rintro _ w3 ⟨⟨⟨hj, hu⟩, hl⟩ | ⟨hj, hu, hl⟩ | ⟨id, hj, hu, hl⟩, -⟩
  ·refine ⟨lp, hl.l, by rw [hlp.state]; rfl, fun w4 t4 => ?_⟩
   rw [hlp.pending]
   refine RunE.at_ hst (h w4 (hJup _ _ _ hj (t4.ext.mono fun k _ h => by have h' : k = _ := h; omega)) (up hu t4.ext fun k h => .inr (by have h' : k = _ := h; omega)) (obj_ext hl.d t4.ext (by omega)))
  ·refine ⟨_, hl.l, rfl, fun w4 t4 => ?_⟩
   exact RunE.at_ hst (h' w4 (hZup _ _ hj (t4.ext.mono fun k _ h => by have h' : k = _ := h; omega)) (up hu t4.ext fun k h => .inr (by have h' : k = _ := h; omega)) (obj_ext hl.d t4.ext (by omega)))
  ·refine ⟨_, hl.l, rfl, fun w4 t4 => ?_⟩
   exact RunE.at_ hst (h2 id w4 (hBup _ _ _ hj (t4.ext.mono fun k _ h => by have h' : k = _ := h; omega)) (up hu t4.ext fun k h => .inr (by have h' : k = _ := h; omega)) (obj_ext hl.d t4.ext (by omega)))
 ·rintro ch w3 ⟨⟨hx, hu, hd⟩, -⟩
  exact h3 ch w3 _ hx hu hd hst'
end Go.Rn
end
section
set_option maxRecDepth 4000
namespace Go.Und
open Go.Rn
section
variable {α : Type} (at_ known : α → Int)
def standStep (t kn : Int) (s : Option α) (x : α) : Option α :=
 if at_ x ≤ t ∧ known x ≤ kn then (match s with
  | none => some x
  | some y => if at_ y ≤ at_ x then some x else some y) else s
def standV (t kn : Int) (l : List α) : Option α := l.foldl (standStep at_ known t kn) none
def keyV (from_ : Int) (x : α) : Int := if at_ x ≤ from_ then from_ else at_ x
def forceStep (from_ kn : Int) (s : List (Int × α) × Int) (x : α) : List (Int × α) × Int :=
 if kn < known x then s
 else if at_ x ≤ from_ then (if at_ x < s.2 then s else (setM from_ x s.1, at_ x))
 else (setM (at_ x) x s.1, s.2)
def forceV (from_ kn : Int) (l : List α) : List (Int × α) × Int := l.foldl (forceStep at_ known from_ kn) ([], -1)
variable {at_ known}
structure Inv (from_ kn : Int) (l : List α) (m : List (Int × α)) (b : Int) : Prop where
 at_le : ∀ t x, standV at_ known t kn l = some x → at_ x ≤ t
 mem : ∀ k x, getM k m = some x → x ∈ l ∧ from_ ≤ k ∧ keyV at_ from_ x = k
 none_ : ∀ t, from_ ≤ t → standV at_ known t kn l = none → ∀ k, k ≤ t → getM k m = none
 some_ : ∀ t x, from_ ≤ t → standV at_ known t kn l = some x → getM (keyV at_ from_ x) m = some x ∧ ∀ k, keyV at_ from_ x < k → k ≤ t → getM k m = none
 b0 : standV at_ known from_ kn l = none → b = -1
 b1 : ∀ x, standV at_ known from_ kn l = some x → b = at_ x
theorem inv_step {from_ kn : Int} {l : List α} {m : List (Int × α)} {b : Int} (h : Inv (at_ := at_) (known := known) from_ kn l m b) (y : α) (hy : 0 ≤ at_ y) :
  Inv (at_ := at_) (known := known) from_ kn (l ++ [y]) (forceStep at_ known from_ kn (m, b) y).1 (forceStep at_ known from_ kn (m, b) y).2 := by
 have hs : ∀ t, standV at_ known t kn (l ++ [y]) = standStep at_ known t kn (standV at_ known t kn l) y := fun t => by unfold standV; rw [List.foldl_append]; rfl
 by_cases hk : known y ≤ kn
 case neg =>
  have e1 : forceStep at_ known from_ kn (m, b) y = (m, b) := by unfold forceStep; rw [if_pos (by omega)]
  have e2 : ∀ t, standV at_ known t kn (l ++ [y]) = standV at_ known t kn l := fun t => by rw [hs]; unfold standStep; rw [if_neg (fun h => hk h.2)]
  rw [e1]
  exact ⟨fun t x hx => h.at_le t x (by rw [← e2]; exact hx), fun k x hx => ⟨List.mem_append_left _ (h.mem k x hx).1, (h.mem k x hx).2⟩, fun t ht hx => h.none_ t ht (by rw [← e2]; exact hx), fun t x ht hx => h.some_ t x ht (by rw [← e2]; exact hx), fun hx => h.b0 (by rw [← e2]; exact hx), fun x hx => h.b1 x (by rw [← e2]; exact hx)⟩
 -- what is in force then
 have s1 : ∀ t, ¬ at_ y ≤ t → standV at_ known t kn (l ++ [y]) = standV at_ known t kn l := fun t ht => by rw [hs]; unfold standStep; rw [if_neg (fun h => ht h.1)]
 have s2 : ∀ t, at_ y ≤ t → standV at_ known t kn l = none → standV at_ known t kn (l ++ [y]) = some y := fun t ht hn => by rw [hs, hn]; unfold standStep; rw [if_pos ⟨ht, hk⟩]
 have s3 : ∀ t x, at_ y ≤ t → standV at_ known t kn l = some x → at_ x ≤ at_ y → standV at_ known t kn (l ++ [y]) = some y := fun t x ht hn hle => by rw [hs, hn]; unfold standStep; rw [if_pos ⟨ht, hk⟩]; simp only; rw [if_pos hle]
 have s4 : ∀ t x, at_ y ≤ t → standV at_ known t kn l = some x → ¬ at_ x ≤ at_ y → standV at_ known t kn (l ++ [y]) = some x := fun t x ht hn hle => by rw [hs, hn]; unfold standStep; rw [if_pos ⟨ht, hk⟩]; simp only; rw [if_neg hle]
 have atle : ∀ t x, standV at_ known t kn (l ++ [y]) = some x → at_ x ≤ t := fun t x hx => by
  by_cases ht : at_ y ≤ t
  ·cases hn : standV at_ known t kn l with
   | none => rw [s2 t ht hn] at hx; cases hx; exact ht
   | some z =>
    by_cases hle : at_ z ≤ at_ y
    ·rw [s3 t z ht hn hle] at hx; cases hx; exact ht
    ·rw [s4 t z ht hn hle] at hx; cases hx; exact h.at_le t _ hn
  ·rw [s1 t ht] at hx; exact h.at_le t x hx
 by_cases hf : at_ y ≤ from_
 ·have ky : keyV at_ from_ y = from_ := by unfold keyV; rw [if_pos hf]
  by_cases hb : at_ y < b
  ·have e1 : forceStep at_ known from_ kn (m, b) y = (m, b) := by unfold forceStep; rw [if_neg (by omega), if_pos hf, if_pos hb]
   rw [e1]
   -- the one before is later
   obtain ⟨z, hz⟩ : ∃ z, standV at_ known from_ kn l = some z := by
    cases hn : standV at_ known from_ kn l with
    | none => have := h.b0 hn; omega
    | some z => exact ⟨z, rfl⟩
   have bz := h.b1 z hz
   have kz : keyV at_ from_ z = from_ := by unfold keyV; rw [if_pos (h.at_le _ _ hz)]
   have mz := (h.some_ from_ z (Int.le_refl _) hz).1
   rw [kz] at mz
   have same : ∀ t, from_ ≤ t → standV at_ known t kn (l ++ [y]) = standV at_ known t kn l := fun t ht => by
    cases hn : standV at_ known t kn l with
    | none => have := h.none_ t ht hn from_ ht; rw [mz] at this; cases this
    | some x =>
     refine s4 t x (by omega) hn fun hle => ?_
     have kx : keyV at_ from_ x = from_ := by unfold keyV; rw [if_pos (by omega)]
     have := (h.some_ t x ht hn).1
     rw [kx, mz] at this
     cases this; omega
   exact ⟨atle, fun k x hx => ⟨List.mem_append_left _ (h.mem k x hx).1, (h.mem k x hx).2⟩, fun t ht hx => h.none_ t ht (by rw [← same t ht]; exact hx), fun t x ht hx => h.some_ t x ht (by rw [← same t ht]; exact hx), fun hx => h.b0 (by rw [← same _ (Int.le_refl _)]; exact hx), fun x hx => h.b1 x (by rw [← same _ (Int.le_refl _)]; exact hx)⟩
  ·have e1 : forceStep at_ known from_ kn (m, b) y = (setM from_ y m, at_ y) := by unfold forceStep; rw [if_neg (by omega), if_pos hf, if_neg hb]
   rw [e1]
   have sf : standV at_ known from_ kn (l ++ [y]) = some y := by
    cases hn : standV at_ known from_ kn l with
    | none => exact s2 _ hf hn
    | some z => exact s3 _ z hf hn (by have := h.b1 z hn; omega)
   refine ⟨atle, fun k x hx => ?_, fun t ht hx => ?_, fun t x ht hx => ?_, fun hx => (by rw [sf] at hx; cases hx), fun x hx => (by rw [sf] at hx; cases hx; rfl)⟩
   ·rw [getM_set] at hx
    by_cases hkf : k = from_
    ·rw [if_pos hkf] at hx; cases hx
     exact ⟨by simp, by omega, by rw [ky, hkf]⟩
    ·rw [if_neg hkf] at hx
     exact ⟨List.mem_append_left _ (h.mem k x hx).1, (h.mem k x hx).2⟩
   ·exfalso
    cases hn : standV at_ known t kn l with
    | none => rw [s2 t (by omega) hn] at hx; cases hx
    | some z =>
     by_cases hle : at_ z ≤ at_ y
     ·rw [s3 t z (by omega) hn hle] at hx; cases hx
     ·rw [s4 t z (by omega) hn hle] at hx; cases hx
   ·cases hn : standV at_ known t kn l with
    | none =>
     rw [s2 t (by omega) hn] at hx; cases hx
     refine ⟨by rw [ky, getM_set, if_pos rfl], fun k h1 h2 => ?_⟩
     rw [getM_set, if_neg (by omega)]; exact h.none_ t ht hn k h2
    | some z =>
     have hz := h.some_ t z ht hn
     by_cases hle : at_ z ≤ at_ y
     ·rw [s3 t z (by omega) hn hle] at hx; cases hx
      have kz : keyV at_ from_ z = from_ := by unfold keyV; rw [if_pos (by omega)]
      refine ⟨by rw [ky, getM_set, if_pos rfl], fun k h1 h2 => ?_⟩
      rw [ky] at h1
      rw [getM_set, if_neg (by omega)]; exact hz.2 k (by rw [kz]; exact h1) h2
     ·rw [s4 t z (by omega) hn hle] at hx; cases hx
      have kx : from_ < keyV at_ from_ x := by
       rcases Int.lt_or_le from_ (keyV at_ from_ x) with hlt | hge
       ·exact hlt
       ·exfalso
        have hzf : at_ x ≤ from_ := by
         by_cases hc : at_ x ≤ from_
         ·exact hc
         ·unfold keyV at hge; rw [if_neg hc] at hge; omega
        have kz : keyV at_ from_ x = from_ := by unfold keyV; rw [if_pos hzf]
        have mz := hz.1
        rw [kz] at mz
        cases hq : standV at_ known from_ kn l with
        | none => have := h.none_ from_ (Int.le_refl _) hq from_ (Int.le_refl _); rw [mz] at this; cases this
        | some q =>
         have kq : keyV at_ from_ q = from_ := by unfold keyV; rw [if_pos (h.at_le _ _ hq)]
         have mq := (h.some_ from_ q (Int.le_refl _) hq).1
         rw [kq, mz] at mq; cases mq
         have := h.b1 x hq; omega
      refine ⟨by rw [getM_set, if_neg (by omega)]; exact hz.1, fun k h1 h2 => ?_⟩
      rw [getM_set, if_neg (by omega)]; exact hz.2 k h1 h2
 ·have ky : keyV at_ from_ y = at_ y := by unfold keyV; rw [if_neg hf]
  have e1 : forceStep at_ known from_ kn (m, b) y = (setM (at_ y) y m, b) := by unfold forceStep; rw [if_neg (by omega), if_neg hf]
  rw [e1]
  refine ⟨atle, fun k x hx => ?_, fun t ht hx => ?_, fun t x ht hx => ?_, fun hx => h.b0 (by rw [← s1 _ hf]; exact hx), fun x hx => h.b1 x (by rw [← s1 _ hf]; exact hx)⟩
  ·rw [getM_set] at hx
   by_cases hkf : k = at_ y
   ·rw [if_pos hkf] at hx; cases hx
    exact ⟨by simp, by omega, by rw [ky, hkf]⟩
   ·rw [if_neg hkf] at hx
    exact ⟨List.mem_append_left _ (h.mem k x hx).1, (h.mem k x hx).2⟩
  ·by_cases hyt : at_ y ≤ t
   ·exfalso
    cases hn : standV at_ known t kn l with
    | none => rw [s2 t hyt hn] at hx; cases hx
    | some z =>
     by_cases hle : at_ z ≤ at_ y
     ·rw [s3 t z hyt hn hle] at hx; cases hx
     ·rw [s4 t z hyt hn hle] at hx; cases hx
   ·intro k hkt
    rw [getM_set, if_neg (by omega)]
    exact h.none_ t ht (by rw [← s1 t hyt]; exact hx) k hkt
  ·by_cases hyt : at_ y ≤ t
   ·cases hn : standV at_ known t kn l with
    | none =>
     rw [s2 t hyt hn] at hx; cases hx
     refine ⟨by rw [ky, getM_set, if_pos rfl], fun k h1 h2 => ?_⟩
     rw [ky] at h1
     rw [getM_set, if_neg (by omega)]; exact h.none_ t ht hn k h2
    | some x =>
     have hz := h.some_ t x ht hn
     by_cases hle : at_ x ≤ at_ y
     ·rw [s3 t x hyt hn hle] at hx; cases hx
      have kz : keyV at_ from_ x ≤ at_ y := by unfold keyV; split <;> omega
      refine ⟨by rw [ky, getM_set, if_pos rfl], fun k h1 h2 => ?_⟩
      rw [ky] at h1
      rw [getM_set, if_neg (by omega)]; exact hz.2 k (by omega) h2
     ·rw [s4 t x hyt hn hle] at hx; cases hx
      have kx : at_ y < keyV at_ from_ x := by unfold keyV; split <;> omega
      refine ⟨by rw [getM_set, if_neg (by omega)]; exact hz.1, fun k h1 h2 => ?_⟩
      rw [getM_set, if_neg (by omega)]; exact hz.2 k h1 h2
   ·rw [s1 t hyt] at hx
    have hz := h.some_ t x ht hx
    have kx : keyV at_ from_ x < at_ y := by have := h.at_le t x hx; unfold keyV; split <;> omega
    refine ⟨by rw [getM_set, if_neg (by omega)]; exact hz.1, fun k h1 h2 => ?_⟩
    rw [getM_set, if_neg (by omega)]; exact hz.2 k h1 h2
theorem inv_nil (from_ kn : Int) : Inv (at_ := at_) (known := known) from_ kn [] [] (-1) := by
 refine ⟨?_, ?_, ?_, ?_, ?_, ?_⟩ <;> intros <;> simp_all [standV, getM]
theorem inv_all (from_ kn : Int) (l : List α) (hl : ∀ x ∈ l, 0 ≤ at_ x) : Inv (at_ := at_) (known := known) from_ kn l (forceV at_ known from_ kn l).1 (forceV at_ known from_ kn l).2 := by
 have key : ∀ (r pre : List α) (s : List (Int × α) × Int), (∀ x ∈ r, 0 ≤ at_ x) → Inv (at_ := at_) (known := known) from_ kn pre s.1 s.2 →
   Inv (at_ := at_) (known := known) from_ kn (pre ++ r) (r.foldl (forceStep at_ known from_ kn) s).1 (r.foldl (forceStep at_ known from_ kn) s).2 := by
  intro r
  induction r with
  | nil => intro pre s _ h; simpa using h
  | cons y r ih =>
   intro pre s hr h
   have := ih (pre ++ [y]) (forceStep at_ known from_ kn s y) (fun x hx => hr x (List.mem_cons_of_mem _ hx)) (inv_step h y (hr y List.mem_cons_self))
   simpa using this
 have := key l [] ([], -1) hl (inv_nil from_ kn)
 simpa [forceV] using this
end
structure Keys {α : Type} (m : List (Int × α)) (ks : List Int) : Prop where
 srt : ks.Pairwise (· < ·)
 mem : ∀ k, k ∈ ks ↔ (getM k m).isSome = true
def metV {α : Type} (m : List (Int × α)) (ks : List Int) (t : Int) : List α := (ks.filter fun k => decide (k ≤ t)).filterMap fun k => getM k m
section
variable {α : Type} {at_ known : α → Int}
theorem sorted_last {ks : List Int} (hs : ks.Pairwise (· < ·)) {k : Int} (hk : k ∈ ks) (hg : ∀ j ∈ ks, j ≤ k) : ∃ r, ks = r ++ [k] := by
 induction ks with
 | nil => cases hk
 | cons a ks ih =>
  obtain ⟨h1, h2⟩ := List.pairwise_cons.1 hs
  rcases List.mem_cons.1 hk with rfl | hk'
  ·cases ks with
   | nil => exact ⟨[], rfl⟩
   | cons c ks => have := h1 c List.mem_cons_self; have := hg c (by simp); omega
  ·obtain ⟨r, rfl⟩ := ih h2 hk' fun j hj => hg j (List.mem_cons_of_mem _ hj)
   exact ⟨a :: r, rfl⟩
theorem sorted_head {ks : List Int} (hs : ks.Pairwise (· < ·)) {k : Int} (hk : k ∈ ks) (hg : ∀ j ∈ ks, k ≤ j) : ∃ r, ks = k :: r := by
 cases ks with
 | nil => cases hk
 | cons a ks =>
  obtain ⟨h1, h2⟩ := List.pairwise_cons.1 hs
  rcases List.mem_cons.1 hk with rfl | hk'
  ·exact ⟨ks, rfl⟩
  ·have := h1 k hk'; have := hg a List.mem_cons_self; omega
variable {from_ kn t : Int} {l : List α} {m : List (Int × α)} {b : Int} {ks : List Int}
theorem met_nil (h : Inv (at_ := at_) (known := known) from_ kn l m b) (hk : Keys m ks) (ht : from_ ≤ t) (hn : standV at_ known t kn l = none) : metV m ks t = [] := by
 unfold metV
 have : ks.filter (fun k => decide (k ≤ t)) = [] := by
  rw [List.filter_eq_nil_iff]
  intro k hkk
  simp only [decide_eq_true_eq]
  intro hle
  have := h.none_ t ht hn k hle
  have h2 := (hk.mem k).1 hkk
  rw [this] at h2; cases h2
 rw [this]; rfl
theorem met_last (h : Inv (at_ := at_) (known := known) from_ kn l m b) (hk : Keys m ks) (ht : from_ ≤ t) {x : α} (hx : standV at_ known t kn l = some x) : ∃ r, metV m ks t = r ++ [x] := by
 obtain ⟨h1, h2⟩ := h.some_ t x ht hx
 have hkx : keyV at_ from_ x ≤ t := by have := h.at_le t x hx; unfold keyV; split <;> omega
 obtain ⟨r, hr⟩ := sorted_last (ks := ks.filter fun k => decide (k ≤ t)) (List.Pairwise.filter _ hk.srt) (k := keyV at_ from_ x) (by rw [List.mem_filter, hk.mem, h1]; simpa using hkx) (fun j hj => by
  rw [List.mem_filter] at hj
  have hjt : j ≤ t := by simpa using hj.2
  rcases Int.lt_or_le (keyV at_ from_ x) j with hlt | hge
  ·have := h2 j hlt hjt
   have h3 := (hk.mem j).1 hj.1
   rw [this] at h3; cases h3
  ·exact hge)
 refine ⟨r.filterMap fun k => getM k m, ?_⟩
 unfold metV
 rw [hr, List.filterMap_append, List.filterMap_cons, h1]; rfl
theorem met_old (h : Inv (at_ := at_) (known := known) from_ kn l m b) (hk : Keys m ks) (ht : from_ ≤ t) :
  (from_ ∈ ks.filter fun k => decide (k ≤ t)) ↔ ∃ x, standV at_ known from_ kn l = some x ∧ ∃ r, metV m ks t = x :: r := by
 constructor
 ·intro hm
  rw [List.mem_filter, hk.mem] at hm
  cases hs : standV at_ known from_ kn l with
  | none => have := h.none_ from_ (Int.le_refl _) hs from_ (Int.le_refl _); rw [this] at hm; simp at hm
  | some x =>
   have kx : keyV at_ from_ x = from_ := by unfold keyV; rw [if_pos (h.at_le _ _ hs)]
   have mx := (h.some_ from_ x (Int.le_refl _) hs).1
   rw [kx] at mx
   refine ⟨x, rfl, ?_⟩
   obtain ⟨r, hr⟩ := sorted_head (ks := ks.filter fun k => decide (k ≤ t)) (List.Pairwise.filter _ hk.srt) (k := from_) (by rw [List.mem_filter, hk.mem]; exact hm) (fun j hj => by
    rw [List.mem_filter, hk.mem] at hj
    obtain ⟨y, hy⟩ := Option.isSome_iff_exists.1 hj.1
    exact (h.mem j y hy).2.1)
   refine ⟨r.filterMap fun k => getM k m, ?_⟩
   unfold metV
   rw [hr, List.filterMap_cons, mx]
 ·rintro ⟨x, hs, -⟩
  have kx : keyV at_ from_ x = from_ := by unfold keyV; rw [if_pos (h.at_le _ _ hs)]
  have mx := (h.some_ from_ x (Int.le_refl _) hs).1
  rw [kx] at mx
  rw [List.mem_filter, hk.mem, mx]
  simpa using ht
theorem met_mem (h : Inv (at_ := at_) (known := known) from_ kn l m b) {x : α} (hx : x ∈ metV m ks t) : x ∈ l := by
 unfold metV at hx
 rw [List.mem_filterMap] at hx
 obtain ⟨k, -, hk⟩ := hx
 exact (h.mem k x hk).1
end
end Go.Und
end
section
set_option maxRecDepth 4000
namespace Go.Rn
open Go.RowKit
def GivesB (P : Program) (f : Value) (xs : List (List Value)) (w0 : World) (F : Nat → Prop) : Prop :=
 ∀ (S : Nat → Prop) (J : (Nat → Prop) → Nat → World → Prop) (Z : World → Prop) (y : Value) (w : World), (∀ k, F k → ¬ S k) → ExtB S w0 w → (∀ G w1, Ext w w1 → (∀ k, G k → w.heap.size ≤ k ∧ k < w1.heap.size) → J G 0 w1) →
  (∀ G i w1, J G i w1 → ExtB S w0 w1) → (∀ G i w1 w2, J G i w1 → Ext w1 w2 → J G i w2) → (∀ w1 w2, Z w1 → Ext w1 w2 → Z w2) →
  (∀ G i x w1, xs[i]? = some x → J G i w1 → FnV P y x w1 (fun r w2 => ((r = .bool true ∧ J G (i + 1) w2) ∨ (r = .bool false ∧ Z w2)) ∧ ∀ k, G k → w2.heap[k]? = w1.heap[k]?) fun _ _ => False) →
  FnV P f [y] w (fun _ w' => (∃ G, J G xs.length w') ∨ Z w') fun _ _ => False
def RoundB (L D id : Nat) (lp : Loop) (K Z : World → Prop) : Out → Act → World → Prop
 | .fall, _, w => K w ∧ LoopAt w L D { lp with state := .busy }
 | .exit i, _, w => i = id ∧ Z w ∧ LoopAt w L D { lp with state := .busy }
 | _, _, _ => False
section
variable {P : Program} {c : Ctx} {k : List Item} {Q : Out → Act → World → Prop} {w : World} {n : Nat} {ds : List Deferred} {env : Env}
theorem RunE.endB {L D id : Nat} {lp : Loop} {K Z : World → Prop} (hK : K w) (hl : LoopAt w L D { lp with state := .busy }) : RunE P c n ds [] (RoundB L D id lp K Z) env w := .nil fun _ _ => ⟨hK, hl⟩
theorem RunE.breakB {L D id : Nat} {lp : Loop} {K Z : World → Prop} {k : List Item} (hk : exitTo id k = none) (hZ : Z w) (hl : LoopAt w L D { lp with state := .busy }) : RunE P c n ds (.code (.exit id) :: k) (RoundB L D id lp K Z) env w := fun _ _ => Run.exitOut hk ⟨rfl, hZ, hl⟩
theorem RunE.rangeGivesB {id : Nat} {f : Operand} {params : Array Tmp} {assign body : Code} {fv : Value} {xs : List (List Value)} {w0 : World} {F : Nat → Prop} (hc : c.round = none) (hfn : ∃ g, P.funcs[c.fn]? = some g)
  (hf : evO env f = some fv) (hG : GivesB P fv xs w0 F) (S0 : Nat → Prop) (hF : ∀ k, F k → ¬ S0 k ∧ k < w.heap.size) (hX : ExtB S0 w0 w)
  (hlen : ∀ x ∈ xs, x.length = params.toList.length) (hp : params.toList.all (Nat.blt · n) = true) (J : (Nat → Prop) → Nat → World → Prop) (Z : World → Prop)
  (h0 : ∀ G w2, Ext w w2 → w.heap.size + 2 ≤ w2.heap.size → (∀ k, G k → w.heap.size + 2 ≤ k ∧ k < w2.heap.size) → J G 0 w2) (hJS : ∀ G i w1, J G i w1 → ExtB S0 w w1) (hit : ∀ G i w1, J G i w1 → ∀ k, G k → w.heap.size + 2 ≤ k)
  (hJup : ∀ G i w1 w2, J G i w1 → ExtB (fun k => k = w.heap.size ∨ k = w.heap.size + 1) w1 w2 → J G i w2)
  (hZup : ∀ w1 w2, Z w1 → ExtB (fun k => k = w.heap.size ∨ k = w.heap.size + 1) w1 w2 → Z w2)
  (hb : ∀ G i x w1 lp, xs[i]? = some x → J G i w1 → LoopAt w1 (w.heap.size + 1) w.heap.size lp → lp.state = .ready →
   RunE P ⟨c.fn, .normal, some (w.heap.size + 1)⟩ n [] [.code assign, .beginRound, .code body] (RoundB (w.heap.size + 1) w.heap.size id lp (fun w2 => J G (i + 1) w2 ∧ ∀ k, G k → w2.heap[k]? = w1.heap[k]?) (fun w2 => Z w2 ∧ ∀ k, G k → w2.heap[k]? = w1.heap[k]?)) (parEnv params.toList x env) w1)
  (hJZ : ∀ G w', J G xs.length w' → Z w')
  (h : ∀ w', Z w' → w'.heap[w.heap.size]? = some (.deferred (some [])) → RunE P c n (markOf w.heap.size :: ds) k Q env w') :
  RunE P c n ds (.code (.rangeFunc f params assign body) :: .inBlock id :: k) Q env w := by
 refine RunE.rangeFunc hc hf fun a D L w1 w2 lp hst h1 h2 hlp => ?_
 obtain rfl : D = w.heap.size := h1.eq
 have e2 := h2.eq
 rw [h1.size] at e2
 subst e2
 have hX2 : Ext w w2 := h1.ext.trans h2.ext
 have hL2 : LoopAt w2 (w.heap.size + 1) w.heap.size lp := ⟨h2.at_, obj_ext h1.at_ h2.ext fun h => h⟩
 have hsz : w2.heap.size = w.heap.size + 2 := h2.size
 refine FnV.mono (hG (fun k => S0 k ∨ w.heap.size ≤ k) (fun G i w' => J G i w' ∧ LoopAt w' (w.heap.size + 1) w.heap.size lp) (fun w' => Z w' ∧ LoopAt w' (w.heap.size + 1) w.heap.size { lp with state := .done, pending := some (.exit id) }) (yieldV (w.heap.size + 1)) w2 ?_ ?_ ?_ ?_ ?_ ?_ ?_) ?_ (fun _ _ h => h)
 ·intro k hk hs
  have := hF k hk
  rcases hs with hs | hs
  ·exact this.1 hs
  ·omega
 ·exact (hX.trans (ExtB.of_ext hX2)).mono fun k _ h => .inl h
 ·intro G u e hG
  exact ⟨h0 G u (hX2.trans e) (by have := e.size; omega) (fun k hk => by have := hG k hk; omega), hL2.up e⟩
 ·rintro G i w' ⟨hj, -⟩
  exact (hX.trans (hJS G i w' hj)).mono fun k _ h => .inl h
 ·rintro G i u u' ⟨hj, hl⟩ e
  exact ⟨hJup G i u u' hj (ExtB.of_ext e), hl.up e⟩
 ·rintro u u' ⟨hj, hl⟩ e
  exact ⟨hZup u u' hj (ExtB.of_ext e), hl.up e⟩
 ·rintro G i x u hx ⟨hj, hl⟩
  have hit' := hit G i u hj
  refine Yield.run (env := env) hl.l hfn hst (params := params.toList) (assign := assign) (body := body) (by simpa using hlp) (hlen x (List.mem_of_getElem? hx)) hp rfl ?_
  intro a' ha' cs
  obtain ⟨o, a1, u1, hq, hfin⟩ := hb G i x u lp hx hj hl hlp.state a' ha' cs
  refine ⟨o, a1, u1, ?_, hfin⟩
  cases o with
  | fall =>
   obtain ⟨⟨hK, hKi⟩, hl1⟩ := hq
   refine ⟨_, hl1.l, fun u2 t2 => ⟨.inl ⟨rfl, hJup _ _ _ _ hK (t2.ext.mono fun k _ h => .inr h), ?_, obj_ext hl1.d t2.ext (by omega)⟩, ?_⟩⟩
   ·have := t2.at_
    rwa [show ({ ({ lp with state := .busy } : Loop) with state := .ready, pending := none } : Loop) = lp from hlp.back] at this
   ·intro q hg
    have := hit' q hg
    rw [← hKi q hg]
    rcases Nat.lt_or_ge q u1.heap.size with hlt | hge
    ·exact t2.ext.block q hlt (by omega)
    ·rw [Array.getElem?_eq_none hge, Array.getElem?_eq_none (by rw [t2.size]; exact hge)]
  | exit i =>
   obtain ⟨rfl, ⟨hK, hKi⟩, hl1⟩ := hq
   refine ⟨_, hl1.l, fun u2 t2 => ⟨.inr ⟨rfl, hZup _ _ hK (t2.ext.mono fun k _ h => .inr h), t2.at_, obj_ext hl1.d t2.ext (by omega)⟩, ?_⟩⟩
   intro q hg
   have := hit' q hg
   rw [← hKi q hg]
   rcases Nat.lt_or_ge q u1.heap.size with hlt | hge
   ·exact t2.ext.block q hlt (by omega)
   ·rw [Array.getElem?_eq_none hge, Array.getElem?_eq_none (by rw [t2.size]; exact hge)]
  | ret => exact hq.elim
  | panic ch => exact hq.elim
 ·rintro _ w3 (⟨G, hj, hl⟩ | ⟨hj, hl⟩)
  ·refine ⟨lp, hl.l, by rw [hlp.state]; rfl, fun w4 t4 => ?_⟩
   rw [hlp.pending]
   refine RunE.at_ hst (RunE.inBlock (h w4 (hZup _ _ (hJZ G w3 hj) (t4.ext.mono fun k _ h => .inr h)) (obj_ext hl.d t4.ext (by omega))))
  ·refine ⟨_, hl.l, rfl, fun w4 t4 => ?_⟩
   exact RunE.at_ hst (RunE.exit (by simp [exitTo]) (h w4 (hZup _ _ hj (t4.ext.mono fun k _ h => .inr h)) (obj_ext hl.d t4.ext (by omega))))
end
end Go.Rn
end
section
set_option maxRecDepth 4000
namespace Go.Sg
open Go.Rn Go.RowKit Go.WideShapes Go.ChangeShapes

section
variable {H : Type} {enc : TypeId × Value → H} {P : Program}

theorem trodAll_stays (hl : laidOutB P = true) {W W' : World} (hb : Below W.heap.size W W') : ∀ (ts : List TypeId) (vs : List Value) (ds : List (DataW H)) (ps : List MemPlace),
  (∀ t ∈ ts, P.readableRec t = true ∧ t < P.types.size) → (∀ x ∈ ps, x.block < W.heap.size) → DataW.TrodAll enc P W 0 (fun _ => true) true ts vs ds ps →
  DataW.TrodAll enc P W' 0 (fun b => decide (b < W.heap.size)) true ts vs ds ps
 | [], vs, ds, ps, _, _, h => by
  obtain ⟨rfl, rfl, rfl⟩ := trodAll_nil h
  exact trodAll_mk0
 | t :: ts, vs, ds, ps, ht, hp, h => by
  obtain ⟨v, vs', d, ds', p, q, rfl, rfl, rfl, hd, hr⟩ := trodAll_cons h
  have h1 := ht t (by simp)
  exact trodAll_cons_mk (Below.trod hl h1.1 h1.2 hd hb (fun x hx => hp x (by simp [hx])))
   (trodAll_stays hl hb ts vs' ds' q (fun u hu => ht u (by simp [hu])) (fun x hx => hp x (by simp [hx])) hr)

theorem law_post {f : Func} {s : ChangeSpec} {apart fresh : Bool} {W W' : World} {args : Array Value} {ds gs : List (DataW H)} {before : List MemPlace} {t : TypeId}
  (hl : laidOutB P = true) (hpar : f.params.toList.all (fun t => P.readableRec t && decide (t < P.types.size)) = true) (hrt : f.resultTypes = #[t]) (hbool : P.underlying t = some .bool) (hvars : s.vars = [])
  (hfn : ∀ ds : List (DataW H), ds.length = f.params.size → s.fn H ds = { results := [.lit (.bool true)], args := ds })
  (hW : DataW.Whole enc P f.params.toList s.vars apart W args.toList ds gs before) (hb : Ext W W') :
  s.post enc P f apart fresh false false W args (.bool true) W' := by
 have hW' := hW
 obtain ⟨p, q, hA, hV, rfl, hfz, hnd⟩ := hW
 rw [hvars] at hV
 obtain ⟨rfl, rfl⟩ := trodVars_none hV
 have hlen : ds.length = f.params.size := by
  have : ∀ (ts : List TypeId) (vs : List Value) (ds : List (DataW H)) (ps : List MemPlace), DataW.TrodAll enc P W 0 (fun _ => true) true ts vs ds ps → ds.length = ts.length := by
   intro ts
   induction ts with
   | nil => intro vs ds ps h; obtain ⟨rfl, rfl, rfl⟩ := trodAll_nil h; rfl
   | cons t ts ih =>
    intro vs ds ps h
    obtain ⟨v, vs', d, ds', p, q, rfl, rfl, rfl, hd, hr⟩ := trodAll_cons h
    simp [ih _ _ _ hr]
  simpa using this _ _ _ _ hA
 have hfn' := hfn ds hlen
 have hlt : ∀ x ∈ p, x.block < W.heap.size := fun x hx => by simpa using hW'.lt x (by simpa using hx)
 have hpar' : ∀ t ∈ f.params.toList, P.readableRec t = true ∧ t < P.types.size := fun t ht => by
  have := List.all_eq_true.1 hpar t ht
  simpa using this
 have hA' := trodAll_stays hl hb.below _ _ _ _ hpar' hlt hA
 refine ⟨ds, [], p ++ [], [], p, [], hW', ?_, ?_, ?_, World.keptBut_mono (fun x hx => ⟨hx, .inr (.inl (by simpa using hx))⟩) (hb.below.frame (· ∈ p ++ [])), fun h => by simp at h⟩
 ·rw [List.append_nil, hfn', hrt]
  exact trodAll_mk1 (shut_bool hbool _)
 ·rw [List.append_nil, hfn']; exact hA'
 ·rw [List.append_nil, hfn', hvars]; exact hV
end

theorem i64_of_wf {n : Int} (h : (Lit.int .i64 n).wf = true) : -9223372036854775808 ≤ n ∧ n < 9223372036854775808 := by
 have e1 : IntKind.i64.min = -9223372036854775808 := rfl
 have e2 : IntKind.i64.max = 9223372036854775807 := rfl
 simp only [Lit.wf, decide_eq_true_eq, Bool.and_eq_true, e1, e2] at h
 omega

theorem Rets.calls {P : Program} {g : FuncId} {args : List Value} {w : World} {R : Value → World → Prop} (h : Rets P g args w R) : Calls P g args.toArray w (fun e w' => ∃ v, e = .returned v ∧ R v w') :=
 h.2.mono fun e w' he => by
  cases e with
  | returned v => exact ⟨v, rfl, he⟩
  | panicked ch => exact he.elim
  | outgrown => exact he.elim
end Go.Sg
end
section
set_option maxRecDepth 4000
namespace Go.Sg
open Go.Rn Go.RowKit Go.WideShapes Go.ChangeShapes Go.Rec
section
variable {H : Type} {enc : TypeId × Value → H} {P : Program} {w : World}
theorem okWide_sl {t e : TypeId} {r : Reach} {b0 : Nat} {v : Value} (ht : P.underlying t = some (.slice e)) (h : Value.okWide P w r b0 t v) : ∃ d n c, v = .slice d n c := by
 unfold Value.okWide at h
 rw [ht] at h
 simp only [Cell.okWide, ht, Cell.ok] at h
 cases v <;> simp_all

theorem open_rows {α : Type} {en : α → List Value} {k : Nat} (hk : EncOk en k) {wfx : α → Prop} {t e : TypeId} {v : Value} {d : DataW H} {ps : List MemPlace} {held : Bool} {r : Reach} {b0 : Nat} (ht : P.underlying t = some (.slice e)) (hs : P.cellsOf e = k)
  (hrow : ∀ fuel cs, Shp P w fuel e cs → ∃ x, cs = en x ∧ wfx x) (hval : Value.okWide P w r b0 t v)
  (h : DataW.Trod enc P w 0 (fun _ => true) held t v d ps) : ∃ l : List α, l.length < 9223372036854775808 ∧ IsL w en k v l ∧ ∀ x ∈ l, wfx x := by
 obtain ⟨a, n, c, rfl⟩ := okWide_sl ht hval
 obtain ⟨fuel, hf⟩ := shp_of_Trod h
 obtain ⟨f, u, m, rows, hv, hm, hr, hrs, hsl⟩ := hf.slice ht hs hk.pos
 have hu : u = .slice a n c := by simpa [Value.cells] using hv.symm
 subst hu
 obtain ⟨l, hl, hw⟩ : ∃ l : List α, rows = l.map en ∧ ∀ x ∈ l, wfx x := by
  clear hr hsl
  induction rows with
  | nil => exact ⟨[], rfl, by simp⟩
  | cons r rs ih =>
   obtain ⟨l, rfl, h2⟩ := ih fun r hr => hrs r (List.mem_cons_of_mem _ hr)
   obtain ⟨x, rfl, hx⟩ := hrow f r (hrs r List.mem_cons_self).2
   exact ⟨x :: l, rfl, fun y hy => by
    rcases List.mem_cons.1 hy with rfl | hy
    ·exact hx
    ·exact h2 y hy⟩
 subst hl
 have hlm : l.length = m := by simpa using hr
 refine ⟨l, by simp only [maxLen] at hm; omega, ?_, hw⟩
 rw [← hlm] at hsl
 exact hsl
end
end Go.Sg
end
section
set_option maxRecDepth 4000
namespace Go.Sg
open Go.Rn Go.RowKit Go.WideShapes Go.ChangeShapes

section
variable {H : Type} {enc : TypeId × Value → H} {P : Program} {w : World}

theorem trod_array {t e : TypeId} {n fuel : Nat} {cs : List Value} {x : DataW H × List MemPlace} {base : Nat} {sp : Nat → Bool} {held : Bool} (ht : P.underlying t = some (.array n e)) (h : DataW.trod enc P w base sp held fuel t cs = some x) :
  ∃ xs f, fuel = f + 1 ∧ x = (.agg (xs.map (·.1)), xs.flatMap (·.2)) ∧ cs.length = P.cellsOf t ∧
   (List.range n).mapM (fun i => DataW.trod enc P w base sp held f e ((cs.drop (i * P.cellsOf e)).take (P.cellsOf e))) = some xs := by
 cases fuel with
 | zero => simp [DataW.trod] at h
 | succ f =>
  unfold DataW.trod at h
  rw [ht] at h
  split at h <;> simp_all
  obtain ⟨hl, xs, hxs, hd⟩ := h
  exact ⟨xs, hd.symm, hxs⟩

end
end Go.Sg
end
