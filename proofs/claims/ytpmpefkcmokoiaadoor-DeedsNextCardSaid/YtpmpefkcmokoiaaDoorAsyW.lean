/- As AsyK; of what is stored at an address that the region itself has made, the address is known. -/
import Derived.Test.YtpmpefkcmokoiaaDoorDa03
import Derived.Test.YtpmpefkcmokoiaaDoorWri
set_option linter.unusedSimpArgs false
set_option linter.unusedVariables false
set_option linter.unusedSectionVars false
namespace Go.RnW
open Go.RowKit Go.Rn
/-- What the operations of a region may do to the world. -/
structure RelOk (S : World → World → Prop) : Prop where
  refl : ∀ w, S w w
  trans : ∀ {a b c}, S a b → S b c → S a c
  of_ext : ∀ {a b}, Ext a b → S a b
/-- The early ones come before all that write. -/
def earChk (mu : List Bool) (E : List Nat) : List Oper → List Nat → Bool
  | [], _ => true
  | o :: rest, ms => (bif mu.getD ms.length false then E.all (fun i => (maskOf ms o).testBit i) else true) && earChk mu E rest (ms ++ [maskOf ms o])
theorem earChk_ok {ops : List Oper} {mu : List Bool} {E : List Nat} (h : earChk mu E ops [] = true) : ∀ i ∈ E, ∀ j, mu.getD j false = true → j < ops.length → Ord ops i j := by
  have key : ∀ (rest : List Oper) (ms : List Nat), ops.drop ms.length = rest → (∀ k i, (ms.getD k 0).testBit i = true → Ord ops i k) → earChk mu E rest ms = true →
      ∀ i ∈ E, ∀ j, ms.length ≤ j → mu.getD j false = true → j < ops.length → Ord ops i j := by
    intro rest
    induction rest with
    | nil =>
      intro ms hd hm hc i _ j hj _ hjl
      have := List.drop_eq_nil_iff.1 hd
      omega
    | cons a rest ih =>
      intro ms hd hm hc i hi j hj hmu hjl
      obtain ⟨h1, h2⟩ := drop_cons hd
      simp only [earChk, Bool.and_eq_true] at hc
      rcases Nat.lt_or_ge ms.length j with hlt | hge
      · refine ih (ms ++ [maskOf ms a]) (by simpa using h2) ?_ hc.2 i hi j (by simp; omega) hmu hjl
        intro k i hki
        rcases Nat.lt_trichotomy k ms.length with hk | hk | hk
        · refine hm k i ?_
          rw [List.getD_eq_getElem?_getD, List.getElem?_append_left hk, ← List.getD_eq_getElem?_getD] at hki
          exact hki
        · subst hk
          rw [List.getD_eq_getElem?_getD, List.getElem?_append_right (Nat.le_refl _)] at hki
          simp only [Nat.sub_self, List.getElem?_cons_zero, Option.getD_some] at hki
          exact maskOf_ord h1 hm hki
        · rw [List.getD_eq_getElem?_getD, List.getElem?_eq_none (by simp; omega)] at hki
          simp at hki
      · have hj' : j = ms.length := by omega
        subst hj'
        have := hc.1
        rw [hmu, cond_true, List.all_eq_true] at this
        exact maskOf_ord h1 hm (this i hi)
  exact fun i hi j hm hj => key ops [] rfl (fun k i h => by simp at h) h i hi j (by simp) hm hj
/-- The last operation that wrote. -/
def lastMut : List Bool → Option Nat
  | [] => none
  | true :: r => some r.length
  | false :: r => lastMut r
/-- It stores, at an address that an operation before it has made. -/
def namedO (l : List Oper) (j : Nat) (o : Oper) (t : Nat) : Prop := o.dst = none ∧ (∃ ty y, o.op = .store ty (.tmp t) y) ∧ ∃ (i : Nat) (x : Oper), i < j ∧ l[i]? = some x ∧ x.dst = some t
theorem look_store {ops : Array Oper} {o : Oper} {ty : TypeId} {t : Nat} {y : Operand} (h : o.op = .store ty (.tmp t) y) : t ∈ o.looksAt ops := by
  refine List.mem_append_left _ (List.mem_filterMap.2 ⟨.tmp t, ?_, rfl⟩)
  rw [h]; simp [Op.operands]
def PhOk (S : World → World → Prop) (w0 : World) (ops : Array Oper) (s : Know) (o : Oper) (w' : World) (ρ : Operand → Value) : Prop :=
  match s.ph with
  | none => Ext w0 w'
  | some (d, U) => S w0 w' ∧ ∃ x, U x w' ∧ ∀ t, d = some t → t ∈ o.looksAt ops → ρ (.tmp t) = x

def OpOk (P : Program) (n : Nat) (E : List Nat) (S : World → World → Prop) (w0 : World) (ops : Array Oper) (s : Know) (o : Oper) : Ent → Prop
  | .val v => dstOk n o.dst = true ∧ isSel o.op = false ∧ ((wantE ops.toList s.env o = some false ∧ v = undef) ∨
      (wantE ops.toList s.env o = some true ∧ isDefer o.op = false ∧
        ∀ w' ρ, (if E.contains s.mu.length = true then Ext w0 w' else S w0 w') → Goes ops s o w' ρ → ExecE P (execOp ρ o) w' (fun u w'' => u = v ∧ Ext w' w'') fun _ _ => False))
  | .sat V => dstOk n o.dst = true ∧ isSel o.op = false ∧ wantE ops.toList s.env o = some true ∧ isDefer o.op = false ∧
      (∀ v w' w'', S w0 w' → S w' w'' → V v w' → V v w'') ∧
      ∀ w' ρ, S w0 w' → Goes ops s o w' ρ → ExecE P (execOp ρ o) w' (fun u w'' => Ext w' w'' ∧ V u w'') fun _ _ => False
  | .wri V => dstOk n o.dst = true ∧ isSel o.op = false ∧ wantE ops.toList s.env o = some true ∧ isDefer o.op = false ∧
      (∀ v w' w'', S w0 w' → Ext w' w'' → V v w' → V v w'') ∧
      ∀ w' ρ, PhOk S w0 ops s o w' ρ → Goes ops s o w' ρ → (s.ph = none → ∀ d V, (d, V) ∈ s.pres → d ∈ o.looksAt ops → V (ρ (.tmp d)) w') → ExecE P (execOp ρ o) w' (fun u w'' => S w' w'' ∧ ∃ x, V x w'' ∧ (∀ t, o.dst = some t → u = x) ∧ ∀ ty t y, o.dst = none → o.op = .store ty (.tmp t) y → ρ (.tmp t) = x) fun _ _ => False
  | .pre V => dstOk n o.dst = true ∧ isSel o.op = false ∧ wantE ops.toList s.env o = some true ∧ isDefer o.op = false ∧
      (∀ v w' w'', S w0 w' → Ext w' w'' → V v w' → V v w'') ∧
      ∀ w' ρ, S w0 w' → Goes ops s o w' ρ → ExecE P (execOp ρ o) w' (fun u w'' => Ext w' w'' ∧ V u w'') fun _ _ => False

/-- What has to be shown of the operations that are left. -/
def AsyF (P : Program) (n : Nat) (E : List Nat) (S : World → World → Prop) (w0 : World) (ops : Array Oper) (T : Know → List Oper → Prop) : List Ent → List Oper → Know → Prop
  | [], rest, s => T s rest
  | e :: es, o :: rest, s => OpOk P n E S w0 ops s o e ∧ AsyF P n E S w0 ops T es rest (s.add o.dst e)
  | _ :: _, [], _ => False

theorem asyF_all {P : Program} {n : Nat} {E : List Nat} {S : World → World → Prop} {w0 : World} {ops : Array Oper} {T : Know → List Oper → Prop} {l : List Oper} {es : List Ent} {s0 : Know}
    (h : AsyF P n E S w0 ops T es l s0) : es.length ≤ l.length ∧ (∀ (i : Nat) o e, l[i]? = some o → es[i]? = some e → OpOk P n E S w0 ops (stN l es s0 i) o e) ∧ T (stN l es s0 es.length) (l.drop es.length) := by
  have key : ∀ k, k ≤ es.length → AsyF P n E S w0 ops T (es.drop k) (l.drop k) (stN l es s0 k) ∧ k ≤ l.length := by
    intro k
    induction k with
    | zero => intro _; exact ⟨h, Nat.zero_le _⟩
    | succ k ih =>
      intro hk
      obtain ⟨ih, hkl⟩ := ih (by omega)
      have he : es[k]? = some es[k] := List.getElem?_eq_getElem (by omega)
      rw [List.drop_eq_getElem_cons (by omega : k < es.length)] at ih
      rcases Nat.lt_or_ge k l.length with hl | hl
      · rw [List.drop_eq_getElem_cons hl] at ih
        refine ⟨?_, hl⟩
        have := ih.2
        simp only [stN, List.getElem?_eq_getElem hl, he]
        exact this
      · rw [List.drop_eq_nil_iff.2 hl] at ih
        exact ih.elim
  refine ⟨(key _ (Nat.le_refl _)).2, ?_, ?_⟩
  · intro i o e ho he
    have hi : i < es.length := by
      rcases Nat.lt_or_ge i es.length with h | h
      · exact h
      · rw [List.getElem?_eq_none h] at he; simp at he
    have hl : i < l.length := by
      rcases Nat.lt_or_ge i l.length with h | h
      · exact h
      · rw [List.getElem?_eq_none h] at ho; simp at ho
    have := (key i (by omega)).1
    rw [List.drop_eq_getElem_cons hi, List.drop_eq_getElem_cons hl] at this
    rw [List.getElem?_eq_getElem hi] at he
    rw [List.getElem?_eq_getElem hl] at ho
    injection he with he; injection ho with ho
    subst he; subst ho
    exact this.1
  · have := (key es.length (Nat.le_refl _)).1
    rw [List.drop_length] at this
    exact this

section
variable {P : Program} {c : Ctx} {n : Nat} {ds : List Deferred} {l : List Oper} {es : List Ent} {env : Env} {E : List Nat} {S : World → World → Prop} {w0 : World} {k : List Item} {Q : Out → Act → World → Prop}

abbrev Lst (listed : Array Bool) (j : Nat) : Prop := listed.getD j false = true

structure Inv (n : Nat) (ds : List Deferred) (l : List Oper) (es : List Ent) (env : Env) (S : World → World → Prop) (w0 : World) (listed : Array Bool) (a : Act) (w : World) : Prop where
  lsz : listed.size = l.length
  sz : a.tmps.size = n
  df : a.defers = ds
  ext : S w0 w
  lt : ∀ j, Lst listed j → j < es.length
  down : ∀ (j : Nat) (o : Oper) e, Lst listed j → l[j]? = some o → e ∈ o.after → Region.binds .any e = true → Lst listed e.on
  val : ∀ (j : Nat) (o : Oper) v t, Lst listed j → l[j]? = some o → es[j]? = some (.val v) → o.dst = some t → a.tmps[t]? = some v
  sat : ∀ (j : Nat) (o : Oper) V t, Lst listed j → l[j]? = some o → es[j]? = some (.sat V) → o.dst = some t → V (a.eval (.tmp t)) w
  wri : (Ext w0 w ∧ ∀ (j : Nat) e, Lst listed j → es[j]? = some e → e.isMut = false) ∨
    (∃ (j : Nat) (o : Oper) (U : Pred), Lst listed j ∧ l[j]? = some o ∧ es[j]? = some (.wri U) ∧ (∀ (i : Nat) e, Lst listed i → es[i]? = some e → e.isMut = true → i ≤ j) ∧
      ∃ x, U x w ∧ (∀ t, o.dst = some t → a.eval (.tmp t) = x) ∧ ∀ t, namedO l j o t → a.eval (.tmp t) = x)
  base : ∀ t v, env.get t = some v → (∀ (j : Nat) (o : Oper), Lst listed j → l[j]? = some o → o.dst ≠ some t) → a.tmps[t]? = some v
  pre : (∀ (j : Nat) e, Lst listed j → es[j]? = some e → e.isMut = false) → ∀ (j : Nat) (o : Oper) V t, Lst listed j → l[j]? = some o → es[j]? = some (.pre V) → o.dst = some t → V (a.eval (.tmp t)) w

theorem ord_listed {listed : Array Bool} (hdn : ∀ (j : Nat) (o : Oper) e, Lst listed j → l[j]? = some o → e ∈ o.after → Region.binds .any e = true → Lst listed e.on)
    {i j : Nat} (h : Ord l i j) : (∀ (o : Oper) e, l[j]? = some o → e ∈ o.after → Region.binds .any e = true → Lst listed e.on) → Lst listed i := by
  induction h with
  | edge ho he hb => intro hr; exact hr _ _ ho he hb
  | step ho he hb _ ih => intro hr; exact ih fun o e h1 h2 h3 => hdn _ _ _ (hr _ _ ho he hb) h1 h2 h3

theorem mu_getD {i : Nat} : ((es.map Ent.isMut).getD i false = true) ↔ ∃ e, es[i]? = some e ∧ e.isMut = true := by
  rw [List.getD_eq_getElem?_getD, List.getElem?_map]
  cases es[i]? <;> simp

theorem lst_set {listed : Array Bool} {i j : Nat} (hsz : i < listed.size) : Lst (listed.setIfInBounds i true) j ↔ (j = i ∨ Lst listed j) := by
  unfold Lst
  by_cases h : i = j
  · subst h; simp [hsz]
  · rw [getD_set_ne false h]
    exact ⟨.inr, fun hh => hh.resolve_left fun e => h e.symm⟩

theorem eval_put_ne (a : Act) {d : Option Nat} {t : Nat} (v : Value) (h : d ≠ some t) : (a.put d v).eval (.tmp t) = a.eval (.tmp t) :=
  Act.eval_put fun d' hd e => h (by rw [hd]; injection e with e; rw [e])
theorem tmps_put_ne (a : Act) {d : Option Nat} {t : Nat} (v : Value) (h : d ≠ some t) : (a.put d v).tmps[t]? = a.tmps[t]? := by
  cases d with
  | none => rfl
  | some d => simp [Act.put, Array.getElem?_setIfInBounds_ne (fun e => h (by rw [e]) : d ≠ t)]

variable (hok : Okay l (es.map Ent.isMut)) (hop : ∀ (i : Nat) o e, l[i]? = some o → es[i]? = some e → OpOk P n E S w0 l.toArray (stN l es (know0 env) i) o e) (hm : es.length ≤ l.length)
include hok hm

theorem wri_lt {listed : Array Bool} {a : Act} {w : World} (h : Inv n ds l es env S w0 listed a w) {i j : Nat} {e e' : Ent} (hi : es[i]? = some e) (hmi : e.isMut = true)
    (hun : ¬ Lst listed i) (hj : Lst listed j) (hej : es[j]? = some e') (hmj : e'.isMut = true) : j < i := by
  rcases Nat.lt_trichotomy j i with hlt | heq | hgt
  · exact hlt
  · subst heq; exact absurd hj hun
  · exfalso
    have hi' : i < l.length := by
      have : i < es.length := by
        rcases Nat.lt_or_ge i es.length with h | h
        · exact h
        · rw [List.getElem?_eq_none h] at hi; simp at hi
      omega
    have hj' : j < l.length := by have := h.lt j hj; omega
    rcases hok.pair i j l[i] l[j] hgt (List.getElem?_eq_getElem hi') (List.getElem?_eq_getElem hj') with ho | ⟨-, -, hn⟩
    · exact hun (ord_listed h.down ho fun o e h1 h2 h3 => h.down j o e hj h1 h2 h3)
    · exact hn ⟨mu_getD.2 ⟨_, hi, hmi⟩, mu_getD.2 ⟨_, hej, hmj⟩⟩

include hop

theorem Inv.next (hS : RelOk S) {listed : Array Bool} {a : Act} {w : World} (h : Inv n ds l es env S w0 listed a w) {i : Nat} {o : Oper} {e : Ent} (hi : l[i]? = some o) (he : es[i]? = some e)
    (hun : ¬ Lst listed i) (hr : ∀ e ∈ o.after, Region.binds .any e = true → Lst listed e.on) {v : Value} {w' : World} (hx : S w w') (hx' : e.isMut = false → Ext w w')
    (hv : e.isMut = false → e.Holds v w') (hvm : e.isMut = true → ∃ x, e.Holds x w' ∧ (∀ t, o.dst = some t → v = x) ∧ ∀ t, namedO l i o t → a.eval (.tmp t) = x) : Inv n ds l es env S w0 (listed.setIfInBounds i true) (a.put o.dst v) w' := by
  have hie : i < es.length := by
    rcases Nat.lt_or_ge i es.length with h | h
    · exact h
    · rw [List.getElem?_eq_none h] at he; simp at he
  have hil : i < listed.size := by rw [h.lsz]; omega
  have hdst : ∀ (j : Nat) (x : Oper), j ≠ i → j < es.length → l[j]? = some x → ∀ d, x.dst = some d → o.dst ≠ some d := by
    intro j x hne hj hx d hd
    rcases Nat.lt_or_gt_of_ne hne with hlt | hgt
    · exact hok.dst j i x o hlt (by simpa using hie) hx hi d hd
    · intro hod; exact hok.dst i j o x hgt (by simpa using hj) hi hx d hod hd
  have hdk : dstOk n o.dst = true := by
    have := hop i o e hi he
    cases e <;> exact this.1
  have hput : ∀ t, o.dst = some t → (a.put o.dst v).tmps[t]? = some v := by
    intro t ht
    have := dstOk_lt hdk t ht
    rw [ht]
    simp [Act.put, h.sz, this]
  have hputE : ∀ t, o.dst = some t → (a.put o.dst v).eval (.tmp t) = v := by
    intro t ht; simp [Act.eval, hput t ht]
  refine ⟨by simp [h.lsz], ?_, ?_, hS.trans h.ext hx, ?_, ?_, ?_, ?_, ?_, ?_, ?_⟩
  · cases o.dst <;> simp [Act.put, h.sz]
  · cases o.dst <;> exact h.df
  · intro j hj
    rcases (lst_set hil).1 hj with rfl | hj
    · exact hie
    · exact h.lt j hj
  · intro j x ed hj hx hed hb
    rcases (lst_set hil).1 hj with rfl | hj
    · rw [hi] at hx; injection hx with hx; subst hx
      exact (lst_set hil).2 (.inr (hr ed hed hb))
    · exact (lst_set hil).2 (.inr (h.down j x ed hj hx hed hb))
  · intro j x u t hj hx hu ht
    rcases (lst_set hil).1 hj with rfl | hj
    · rw [hi] at hx; injection hx with hx; subst hx
      rw [he] at hu; injection hu with hu; subst hu
      have hv : v = u := hv rfl
      subst hv; exact hput t ht
    · have hne : j ≠ i := fun e => hun (e ▸ hj)
      rw [tmps_put_ne a v (hdst j x hne (h.lt j hj) hx t ht)]
      exact h.val j x u t hj hx hu ht
  · intro j x V t hj hx' hu ht
    rcases (lst_set hil).1 hj with rfl | hj
    · rw [hi] at hx'; injection hx' with hx'; subst hx'
      rw [he] at hu; injection hu with hu; subst hu
      rw [hputE t ht]; exact hv rfl
    · have hne : j ≠ i := fun e => hun (e ▸ hj)
      rw [eval_put_ne a v (hdst j x hne (h.lt j hj) hx' t ht)]
      exact (hop j x _ hx' hu).2.2.2.2.1 _ _ _ h.ext hx (h.sat j x V t hj hx' hu ht)
  · cases hmu : e.isMut with
    | true =>
      right
      obtain ⟨V, rfl⟩ : ∃ V, e = .wri V := by cases e <;> simp_all [Ent.isMut]
      obtain ⟨x, hx1, hx2, hx3⟩ := hvm rfl
      refine ⟨i, o, V, (lst_set hil).2 (.inl rfl), hi, he, ?_, x, hx1, fun t ht => (hputE t ht).trans (hx2 t ht), fun t ht => ?_⟩
      · intro j e' hj he' hm'
        rcases (lst_set hil).1 hj with rfl | hj
        · exact Nat.le_refl _
        · exact Nat.le_of_lt (wri_lt hok hm h he rfl hun hj he' hm')
      · rw [eval_put_ne a v (by rw [ht.1]; simp)]
        exact hx3 t ht
    | false =>
      have hE := hx' hmu
      rcases h.wri with ⟨h1, h2⟩ | ⟨j, x, U, hj, h1, h2, h3, y, h4, h5, h6⟩
      · left
        refine ⟨h1.trans hE, fun j e' hj he' => ?_⟩
        rcases (lst_set hil).1 hj with rfl | hj
        · rw [he] at he'; injection he' with he'; subst he'; exact hmu
        · exact h2 j e' hj he'
      · right
        have hne : j ≠ i := fun e => hun (e ▸ hj)
        refine ⟨j, x, U, (lst_set hil).2 (.inr hj), h1, h2, ?_, y, ?_, ?_, ?_⟩
        · intro i' e' hi' he' hm'
          rcases (lst_set hil).1 hi' with rfl | hi'
          · rw [he] at he'; injection he' with he'; subst he'; rw [hmu] at hm'; simp at hm'
          · exact h3 i' e' hi' he' hm'
        · exact (hop j x _ h1 h2).2.2.2.2.1 _ _ _ h.ext hE h4
        · intro t ht
          rw [eval_put_ne a v (hdst j x hne (h.lt j hj) h1 t ht)]
          exact h5 t ht
        · intro t ht
          obtain ⟨q1, ⟨ty, yy, q2⟩, m, z, q3, q4, q5⟩ := ht
          have hlk : t ∈ x.looksAt l.toArray := look_store q2
          have hml : m < es.length := by have := h.lt j hj; omega
          have hmi : m ≠ i := by
            intro e'
            subst e'
            rcases hok.pair m j z x q3 q4 h1 with ho | ⟨-, ha, -⟩
            · exact hun (ord_listed h.down ho fun o e h1 h2 h3 => h.down j o e hj h1 h2 h3)
            · exact (Oper.apart_spec ha).1 t q5 hlk
          rw [eval_put_ne a v (hdst m z hmi hml q4 t q5)]
          exact h6 t ⟨q1, ⟨ty, yy, q2⟩, m, z, q3, q4, q5⟩
  · intro t u ht hall
    have hne : o.dst ≠ some t := hall i o ((lst_set hil).2 (.inl rfl)) hi
    rw [tmps_put_ne a v hne]
    exact h.base t u ht fun j x hj hx => hall j x ((lst_set hil).2 (.inr hj)) hx
  · intro hno j x V t hj hxj hu ht
    have hmu : e.isMut = false := hno i e ((lst_set hil).2 (.inl rfl)) he
    have hE := hx' hmu
    rcases (lst_set hil).1 hj with rfl | hj
    · rw [hi] at hxj; injection hxj with hxj; subst hxj
      rw [he] at hu; injection hu with hu; subst hu
      rw [hputE t ht]; exact hv rfl
    · have hne : j ≠ i := fun e => hun (e ▸ hj)
      rw [eval_put_ne a v (hdst j x hne (h.lt j hj) hxj t ht)]
      exact (hop j x _ hxj hu).2.2.2.2.1 _ _ _ h.ext hE (h.pre (fun j' e' hj' he' => hno j' e' ((lst_set hil).2 (.inr hj')) he') j x V t hj hxj hu ht)

omit hop hm in
/-- What an operation that may come next reads. -/
theorem Inv.read {listed : Array Bool} {a : Act} {w : World} (h : Inv n ds l es env S w0 listed a w) {i : Nat} {o : Oper} (hi : l[i]? = some o) (hie : i < es.length)
    (hun : ¬ Lst listed i) (hr : ∀ e ∈ o.after, Region.binds .any e = true → Lst listed e.on) {t : Nat} (ht : t ∈ o.looksAt l.toArray) {v : Value}
    (hv : (stN l es (know0 env) i).env.get t = some v) : a.tmps[t]? = some v := by
  have rdy : ∀ j, Ord l j i → Lst listed j := fun j hj => ord_listed h.down hj fun o' e h1 h2 h3 => by
    rw [hi] at h1; injection h1 with h1; subst h1; exact hr e h2 h3
  rcases stN_env (fun i j x o hij hj hx ho d => hok.dst i j x o hij (by simpa using hj) hx ho d) i (by omega) t v hv with ⟨j, x, hj, h1, h2, h3⟩ | ⟨h1, h2⟩
  · rcases hok.pair j i x o hj h1 hi with ho | ⟨-, ha, -⟩
    · exact h.val j x v t (rdy j ho) h1 h3 h2
    · exact absurd ht ((Oper.apart_spec ha).1 t h2)
  · refine h.base t v h2 fun j x hj hx hd => ?_
    rcases Nat.lt_trichotomy j i with hlt | heq | hgt
    · exact h1 j x hlt hx hd
    · subst heq; exact hun hj
    · rcases hok.pair i j o x hgt hi hx with ho | ⟨-, ha, -⟩
      · exact hun (ord_listed h.down ho fun o e h1 h2 h3 => h.down j o e hj h1 h2 h3)
      · exact (Oper.apart_spec ha).2.2 t hd ht

omit hop hm in
theorem Inv.readS {listed : Array Bool} {a : Act} {w : World} (h : Inv n ds l es env S w0 listed a w) {i : Nat} {o : Oper} (hi : l[i]? = some o) (hie : i < es.length)
    (hr : ∀ e ∈ o.after, Region.binds .any e = true → Lst listed e.on) {d : Nat} (ht : d ∈ o.looksAt l.toArray) {V : Pred}
    (hv : (d, V) ∈ (stN l es (know0 env) i).sats) : V (a.eval (.tmp d)) w := by
  obtain ⟨j, x, hj, h1, h2, h3⟩ := stN_sats i (by omega) d V hv
  have rdy : ∀ j, Ord l j i → Lst listed j := fun j hj => ord_listed h.down hj fun o' e h1 h2 h3 => by
    rw [hi] at h1; injection h1 with h1; subst h1; exact hr e h2 h3
  rcases hok.pair j i x o hj h1 hi with ho | ⟨-, ha, -⟩
  · exact h.sat j x V d (rdy j ho) h1 h3 h2
  · exact absurd ht ((Oper.apart_spec ha).1 d h2)

omit hop hm in
theorem Inv.readP {listed : Array Bool} {a : Act} {w : World} (h : Inv n ds l es env S w0 listed a w) {i : Nat} {o : Oper} (hi : l[i]? = some o) (hie : i < es.length)
    (hr : ∀ e ∈ o.after, Region.binds .any e = true → Lst listed e.on) (hno : ∀ (j : Nat) e, Lst listed j → es[j]? = some e → e.isMut = false) {d : Nat} (ht : d ∈ o.looksAt l.toArray) {V : Pred}
    (hv : (d, V) ∈ (stN l es (know0 env) i).pres) : V (a.eval (.tmp d)) w := by
  obtain ⟨j, x, hj, h1, h2, h3⟩ := stN_pres i (by omega) d V hv
  have rdy : ∀ j, Ord l j i → Lst listed j := fun j hj => ord_listed h.down hj fun o' e h1 h2 h3 => by
    rw [hi] at h1; injection h1 with h1; subst h1; exact hr e h2 h3
  rcases hok.pair j i x o hj h1 hi with ho | ⟨-, ha, -⟩
  · exact h.pre hno j x V d (rdy j ho) h1 h3 h2
  · exact absurd ht ((Oper.apart_spec ha).1 d h2)

def tailEnv (s : Know) (xs : Nat → Value) : Env :=
  s.sats.map (fun e => (e.1, xs e.1)) ++ ((match s.ph with | some (some t, _) => [(t, xs t)] | _ => []) ++ s.env)

omit hok hop hm in
theorem order_run (hmr : P.follows .mixedOrders = true) {x : Nat} {a : Act} (h : ∀ t, Run P c (.inRegion l.toArray (Region.linearise.go .any l.toArray l.length t (Array.replicate l.length false) []) :: k) Q a { w0 with drawn := w0.drawn + 1 }) :
    Run P c (.code (.region x l.toArray true) :: k) Q a w0 := by
  refine .regionDraw fun t => ?_
  simp only [Region.schedule, hmr, Bool.true_or, if_true, Region.linearise, List.size_toArray]
  exact h t

omit hop hm in
theorem tail_order {fuel t : Nat} {listed : Array Bool} {j : Nat} (hsz : listed.size = l.length) (hl : ∀ i, Lst listed i ↔ i < j) (hj : es.length ≤ j) (hjl : j ≤ l.length) (hf : l.length ≤ j + fuel) :
    Region.linearise.go .any l.toArray fuel t listed [] = List.range' j (l.length - j) := by
  induction fuel generalizing t listed j with
  | zero => rw [show l.length - j = 0 by omega]; rfl
  | succ fuel ih =>
    simp only [Region.linearise.go]
    change (match (Region.ready .any l.toArray listed)[t % (Region.ready .any l.toArray listed).length]? with
      | some i => Region.linearise.go .any l.toArray fuel (t / (Region.ready .any l.toArray listed).length) (listed.setIfInBounds i true) [i]
      | none => [].reverse) = _
    have only : ∀ i, i ∈ Region.ready .any l.toArray listed → i = j := by
      intro i hi
      obtain ⟨h0, o, ho, hr⟩ := mem_ready.1 hi
      have ho' : l[i]? = some o := by simpa using ho
      have hil : i < l.length := by
        rcases Nat.lt_or_ge i l.length with h | h
        · exact h
        · rw [List.getElem?_eq_none h] at ho'; simp at ho'
      have hge : j ≤ i := by
        rcases Nat.lt_or_ge i j with h | h
        · have h1 := (hl i).2 h
          unfold Lst at h1
          have h2 : i < listed.size := by omega
          simp [h2] at h0 h1
          rw [h0] at h1; simp at h1
        · exact h
      rcases Nat.lt_or_eq_of_le hge with hlt | heq
      · exfalso
        rcases hok.pair j i l[j] o hlt (List.getElem?_eq_getElem (by omega)) ho' with h | ⟨h, -⟩
        · have : Lst listed j := by
            have hback : ∀ a b, Ord l a b → a < b := by
              intro a b hab
              induction hab with
              | edge ho he hb => exact hok.back _ _ ho _ he hb
              | step ho he hb _ ih => exact Nat.lt_trans ih (hok.back _ _ ho _ he hb)
            cases h with
            | edge ho2 he hb =>
              rw [ho'] at ho2; injection ho2 with ho2; subst ho2
              exact hr _ he hb
            | step ho2 he hb h =>
              rw [ho'] at ho2; injection ho2 with ho2; subst ho2
              have h1 := (hl _).1 (hr _ he hb)
              have h2 := hback _ _ h
              omega
          have := (hl j).1 this
          omega
        · simp at h; omega
      · exact heq.symm
    rcases Nat.lt_or_ge j l.length with hlt | hge
    · have hjr : j ∈ Region.ready .any l.toArray listed := by
        refine mem_ready.2 ⟨?_, l[j], by simp [hlt], fun e he hb => (hl _).2 ?_⟩
        · have h1 : ¬ Lst listed j := fun h => by have := (hl j).1 h; omega
          unfold Lst at h1
          have h2 : j < listed.size := by omega
          simp [h2] at h1 ⊢
          exact h1
        · exact hok.back j l[j] (List.getElem?_eq_getElem hlt) e he hb
      have hpos : 0 < (Region.ready .any l.toArray listed).length := List.length_pos_of_mem hjr
      have hget : (Region.ready .any l.toArray listed)[t % (Region.ready .any l.toArray listed).length]? = some j := by
        have hlt' := Nat.mod_lt t hpos
        rw [List.getElem?_eq_getElem hlt']
        rw [only _ (List.getElem_mem hlt')]
      rw [hget]
      simp only
      rw [linearise_go_acc, List.reverse_singleton, List.singleton_append, ih (by simp [hsz]) (j := j + 1) ?_ (by omega) (by omega) (by omega)]
      · rw [show l.length - j = (l.length - (j + 1)) + 1 by omega, List.range'_succ]
      · intro i
        rw [lst_set (by omega), hl]
        omega
    · have hnil : Region.ready .any l.toArray listed = [] := by
        cases hr : Region.ready .any l.toArray listed with
        | nil => rfl
        | cons x xs =>
          have hx : x ∈ Region.ready .any l.toArray listed := by rw [hr]; exact List.mem_cons_self
          have := only x hx
          subst this
          obtain ⟨-, o, ho, -⟩ := mem_ready.1 hx
          have ho' : l[x]? = some o := by simpa using ho
          rw [List.getElem?_eq_none hge] at ho'; simp at ho'
      rw [hnil, show l.length - j = 0 by omega]
      rfl

def AsyT (P : Program) (c : Ctx) (n : Nat) (ds : List Deferred) (E : List Nat) (S : World → World → Prop) (w0 : World) (l : List Oper) (k : List Item) (Q : Out → Act → World → Prop) (s : Know) (rest : List Oper) : Prop :=
  chk l s.mu.reverse l [] = true ∧ earChk s.mu.reverse E l [] = true ∧ ∀ w' (xs : Nat → Value), S w0 w' → (∀ d V, (d, V) ∈ s.sats → V (xs d) w') →
    (match s.ph with | none => Ext w0 w' | some (d, U) => ∃ x, U x w' ∧ (∀ t, d = some t → xs t = x) ∧ ∀ j o t, lastMut s.mu = some j → l[j]? = some o → namedO l j o t → xs t = x) → RunL P c n ds l.toArray rest k Q (tailEnv s xs) w'

omit hok hop hm in
theorem lastMut_spec : ∀ {m : List Bool} {j : Nat}, lastMut m.reverse = some j → j < m.length ∧ m.getD j false = true ∧ ∀ i, j < i → i < m.length → m.getD i false = false := by
  intro m
  induction hl : m.length generalizing m with
  | zero =>
    intro j h
    have : m = [] := List.length_eq_zero_iff.1 hl
    subst this; simp [lastMut] at h
  | succ q ih =>
    intro j h
    rcases List.eq_nil_or_concat m with rfl | ⟨m', b, rfl⟩
    · simp at hl
    rw [List.concat_eq_append] at *
    have hl' : m'.length = q := by simpa using hl
    rw [List.reverse_append] at h
    cases b with
    | true =>
      simp only [List.reverse_singleton, List.singleton_append, lastMut, List.length_reverse, Option.some.injEq] at h
      subst h
      refine ⟨by omega, by simp, fun i h1 h2 => by omega⟩
    | false =>
      simp only [List.reverse_singleton, List.singleton_append, lastMut] at h
      obtain ⟨h1, h2, h3⟩ := ih hl' h
      refine ⟨by omega, ?_, fun i h4 h5 => ?_⟩
      · rw [List.getD_eq_getElem?_getD, List.getElem?_append_left (by omega), ← List.getD_eq_getElem?_getD]; exact h2
      · rcases Nat.lt_or_ge i m'.length with h6 | h6
        · rw [List.getD_eq_getElem?_getD, List.getElem?_append_left h6, ← List.getD_eq_getElem?_getD]; exact h3 i h4 (by omega)
        · have : i = m'.length := by omega
          subst this; simp
theorem asy_end (htail : AsyT P c n ds E S w0 l k Q (stN l es (know0 env) es.length) (l.drop es.length)) {fuel t : Nat} {listed : Array Bool} {a : Act} {w : World}
    (h : Inv n ds l es env S w0 listed a w) (hc : listed.toList.count false ≤ fuel) (hall : ∀ i, i < es.length → Lst listed i) :
      Run P c (.inRegion l.toArray (Region.linearise.go .any l.toArray fuel t listed []) :: k) Q a w := by
  have hl : ∀ i, Lst listed i ↔ i < es.length := fun i => ⟨h.lt i, hall i⟩
  have hfuel : l.length ≤ es.length + fuel := by
    have h1 : (listed.toList.drop es.length).count false = (listed.toList.drop es.length).length := by
      rw [List.count_eq_length]
      intro b hb
      obtain ⟨i, hi, rfl⟩ := List.getElem_of_mem hb
      have hn : ¬ Lst listed (es.length + i) := fun hh => by have := (hl _).1 hh; omega
      simp only [List.getElem_drop, Array.getElem_toList]
      unfold Lst at hn
      simp only [List.length_drop, Array.length_toList] at hi
      have h2 : es.length + i < listed.size := by omega
      simp only [Array.getD_eq_getD_getElem?, Array.getElem?_eq_getElem h2, Option.getD_some] at hn
      simpa using hn
    have h2 : (listed.toList.drop es.length).count false ≤ listed.toList.count false := (List.drop_sublist _ _).count_le _
    have h3 : (listed.toList.drop es.length).length = l.length - es.length := by simp [h.lsz]
    omega
  rw [tail_order hok (by exact h.lsz) hl (Nat.le_refl _) hm hfuel]
  have hdst : ∀ (i j : Nat) (x o : Oper), i < j → j < es.length → l[i]? = some x → l[j]? = some o → ∀ d, x.dst = some d → o.dst ≠ some d := fun i j x o hij hj hx ho d => hok.dst i j x o hij (by simpa using hj) hx ho d
  have hlt : ∀ (j : Nat) (o : Oper) e, l[j]? = some o → es[j]? = some e → ∀ t, o.dst = some t → t < n := by
    intro j o e ho he
    have := hop j o e ho he
    have hk : dstOk n o.dst = true := by cases e <;> exact this.1
    exact dstOk_lt hk
  have hcell : ∀ t, t < n → a.tmps[t]? = some (a.eval (.tmp t)) := by
    intro t ht
    have : t < a.tmps.size := by rw [h.sz]; exact ht
    simp [Act.eval, Array.getElem?_eq_getElem this]
  have hlen : ∀ {j : Nat} {e : Ent}, es[j]? = some e → j < es.length := by
    intro j e he
    rcases Nat.lt_or_ge j es.length with h | h
    · exact h
    · rw [List.getElem?_eq_none h] at he; simp at he
  have hph := stN_ph (l := l) (es := es) (env := env) es.length (Nat.le_refl _) hm
  have := htail.2.2 w (fun t => a.eval (.tmp t)) h.ext (fun d V hd => by
      obtain ⟨j, o, hj, h1, h2, h3⟩ := stN_sats es.length (Nat.le_refl _) d V hd
      exact h.sat j o V d (hall j hj) h1 h3 h2) (by
      cases hp : (stN l es (know0 env) es.length).ph with
      | none =>
        rw [hp] at hph
        simp only at hph ⊢
        rcases h.wri with ⟨h1, -⟩ | ⟨j, o, U, hj, -, h2, -⟩
        · exact h1
        · have := hph j _ (h.lt j hj) h2; simp [Ent.isMut] at this
      | some x =>
        obtain ⟨d, U⟩ := x
        rw [hp] at hph
        simp only at hph ⊢
        obtain ⟨j, o, hj, h1, h2, h3, h4⟩ := hph
        rcases h.wri with ⟨-, h5⟩ | ⟨i, o', U', hi, h5, h6, h7, y, h8, h9, h9'⟩
        · have := h5 j _ (hall j hj) h3; simp [Ent.isMut] at this
        · have hij : i = j := by
            have h10 := h7 j _ (hall j hj) h3 rfl
            rcases Nat.lt_or_eq_of_le h10 with hlt | heq
            · have := h4 i _ hlt (h.lt i hi) h6; simp [Ent.isMut] at this
            · exact heq.symm
          subst hij
          rw [h1] at h5; injection h5 with h5; subst h5
          rw [h3] at h6; injection h6 with h6; injection h6 with h6; subst h6
          refine ⟨y, h8, fun t ht => h9 t (by rw [h2, ht]), fun j' o'' t' hj' ho'' hn => ?_⟩
          have hji : j' = i := by
            rw [stN_mu es.length (Nat.le_refl _) hm, List.take_length] at hj'
            obtain ⟨g1, g2, g3⟩ := lastMut_spec hj'
            rw [List.length_map] at g1
            obtain ⟨e', g4, g5⟩ := mu_getD.1 g2
            rcases Nat.lt_trichotomy j' i with hlt | heq | hgt
            · have := g3 i hlt (by rw [List.length_map]; exact hlen h3)
              rw [mu_getD.2 ⟨_, h3, rfl⟩] at this; simp at this
            · exact heq
            · have := h4 j' _ hgt (by exact g1) g4; rw [g5] at this; simp at this
          subst hji
          rw [h1] at ho''; injection ho'' with ho''; subst ho''
          exact h9' t' hn)
  have hrun := this es.length (by simp) a ⟨h.sz, h.df, ?_⟩
  · rw [List.length_drop] at hrun; exact hrun
  · intro t v ht
    unfold tailEnv at ht
    have app : ∀ (A B : Env) (t : Nat) (v : Value), Env.get (A ++ B) t = some v → (t, v) ∈ A ∨ Env.get B t = some v := by
      intro A
      induction A with
      | nil => intro B t v h; exact .inr h
      | cons e r ih =>
        intro B t v h
        obtain ⟨kk, u⟩ := e
        by_cases hk : kk = t
        · subst hk
          rw [List.cons_append, Env.get_cons_same] at h
          injection h with h; subst h; exact .inl List.mem_cons_self
        · rw [List.cons_append, Env.get_cons_ne hk] at h
          rcases ih B t v h with h | h
          · exact .inl (List.mem_cons_of_mem _ h)
          · exact .inr h
    rcases app _ _ _ _ ht with ht | ht
    · obtain ⟨⟨d, V⟩, hd, he⟩ := List.mem_map.1 ht
      simp only at he
      injection he with h1 h2; subst h1; subst h2
      obtain ⟨j, o, hj, h1, h2, h3⟩ := stN_sats es.length (Nat.le_refl _) d V hd
      exact hcell d (hlt j o _ h1 h3 d h2)
    · rcases app _ _ _ _ ht with ht | ht
      · cases hp : (stN l es (know0 env) es.length).ph with
        | none => rw [hp] at ht; simp at ht
        | some x =>
          obtain ⟨d, U⟩ := x
          rw [hp] at ht hph
          cases d with
          | none => simp at ht
          | some d =>
            simp only [List.mem_singleton] at ht
            injection ht with h1 h2; subst h1; subst h2
            obtain ⟨j, o, hj, h1, h2, h3, -⟩ := hph
            exact hcell _ (hlt j o _ h1 h3 _ h2)
      · rcases stN_env hdst es.length (Nat.le_refl _) t v ht with ⟨j, o, hj, h1, h2, h3⟩ | ⟨h1, h2⟩
        · exact h.val j o v t (hall j hj) h1 h3 h2
        · exact h.base t v h2 fun j o hj hx => h1 j o (h.lt j hj) hx

theorem asy_go (hS : RelOk S) (hear : ∀ i ∈ E, ∀ j, (es.map Ent.isMut).getD j false = true → j < l.length → Ord l i j) (htail : AsyT P c n ds E S w0 l k Q (stN l es (know0 env) es.length) (l.drop es.length)) :
    ∀ (fuel t : Nat) (listed : Array Bool) (a : Act) (w : World), Inv n ds l es env S w0 listed a w → listed.toList.count false ≤ fuel →
      Run P c (.inRegion l.toArray (Region.linearise.go .any l.toArray fuel t listed []) :: k) Q a w := by
  intro fuel
  induction fuel with
  | zero =>
    intro t listed a w h hc
    refine asy_end hok hop hm htail h hc fun i hi => ?_
    unfold Lst
    have h2 : i < listed.size := by rw [h.lsz]; omega
    simp only [Array.getD_eq_getD_getElem?, Array.getElem?_eq_getElem h2, Option.getD_some]
    cases hb : listed[i] with
    | true => rfl
    | false =>
      have : false ∈ listed.toList := by rw [← hb]; simp
      have := List.count_pos_iff.2 this
      omega
  | succ fuel ih =>
    intro t listed a w h hc
    by_cases hall : ∀ i, i < es.length → Lst listed i
    · exact asy_end hok hop hm htail h hc hall
    · -- the least one that is not listed may come next
      have hex : ∃ i, i < es.length ∧ ¬ Lst listed i := by
        refine Classical.byContradiction fun hn => hall fun i hi => Classical.byContradiction fun hc => hn ⟨i, hi, hc⟩
      have unl : ∀ i, i < es.length → ¬ Lst listed i → listed.getD i true = false := by
        intro i hi hn
        have h2 : i < listed.size := by rw [h.lsz]; omega
        unfold Lst at hn
        simp only [Array.getD_eq_getD_getElem?, Array.getElem?_eq_getElem h2, Option.getD_some] at hn ⊢
        simpa using hn
      obtain ⟨i0, hi0, hmin⟩ : ∃ i, (i < es.length ∧ ¬ Lst listed i) ∧ ∀ j, j < i → Lst listed j := by
        obtain ⟨i, hi, hn⟩ := hex
        induction i using Nat.strongRecOn with
        | ind i ihi =>
          by_cases hq : ∀ j, j < i → Lst listed j
          · exact ⟨i, ⟨hi, hn⟩, hq⟩
          · obtain ⟨j, hj, hnj⟩ : ∃ j, j < i ∧ ¬ Lst listed j := Classical.byContradiction fun hn' => hq fun j hj => Classical.byContradiction fun hc => hn' ⟨j, hj, hc⟩
            exact ihi j hj (by omega) hnj
      have hr0 : i0 ∈ Region.ready .any l.toArray listed := by
        have hil : i0 < l.length := by omega
        refine mem_ready.2 ⟨unl i0 hi0.1 hi0.2, l[i0], by simp [hil], fun e he hb => hmin _ ?_⟩
        exact hok.back i0 l[i0] (List.getElem?_eq_getElem hil) e he hb
      simp only [Region.linearise.go]
      change Run P c (.inRegion l.toArray (match (Region.ready .any l.toArray listed)[t % (Region.ready .any l.toArray listed).length]? with
        | some i => Region.linearise.go .any l.toArray fuel (t / (Region.ready .any l.toArray listed).length) (listed.setIfInBounds i true) [i]
        | none => [].reverse) :: k) Q a w
      have hpos : 0 < (Region.ready .any l.toArray listed).length := List.length_pos_of_mem hr0
      have hlt' := Nat.mod_lt t hpos
      rw [List.getElem?_eq_getElem hlt']
      have hi := List.getElem_mem hlt'
      generalize (Region.ready .any l.toArray listed)[t % (Region.ready .any l.toArray listed).length] = i at hi ⊢
      simp only
      rw [linearise_go_acc, List.reverse_singleton, List.singleton_append]
      obtain ⟨h0, o, ho, hr⟩ := mem_ready.1 hi
      have ho' : l[i]? = some o := by simpa using ho
      have hil : i < l.length := by
        rcases Nat.lt_or_ge i l.length with h | h
        · exact h
        · rw [List.getElem?_eq_none h] at ho'; simp at ho'
      have hsz : i < listed.size := by rw [h.lsz]; exact hil
      have hun : ¬ Lst listed i := by
        unfold Lst
        simp only [Array.getD_eq_getD_getElem?, Array.getElem?_eq_getElem hsz, Option.getD_some] at h0 ⊢
        rw [h0]; simp
      have hie : i < es.length := by
        rcases Nat.lt_or_ge i es.length with h' | h'
        · exact h'
        · exfalso
          have hlt : i0 < i := by omega
          rcases hok.pair i0 i l[i0] o hlt (List.getElem?_eq_getElem (by omega)) ho' with h1 | ⟨h1, -⟩
          · exact hi0.2 (ord_listed h.down h1 fun o' e h2 h3 h4 => by
              rw [ho'] at h2; injection h2 with h2; subst h2; exact hr e h3 h4)
          · simp at h1; omega
      have he : es[i]? = some es[i] := List.getElem?_eq_getElem hie
      have hO := hop i o _ ho' he
      have hcount : (listed.setIfInBounds i true).toList.count false ≤ fuel := by
        have h1 : listed[i] = false := by
          simpa only [Array.getD_eq_getD_getElem?, Array.getElem?_eq_getElem hsz, Option.getD_some] using h0
        rw [Array.toList_setIfInBounds, List.count_set (by simpa using hsz)]
        simp only [Array.getElem_toList, h1]
        simp only [beq_self_eq_true, if_true]
        rw [if_neg (by decide)]
        omega
      have step : ∀ {v : Value} {w' : World}, S w w' → (es[i].isMut = false → Ext w w') → (es[i].isMut = false → es[i].Holds v w') → (es[i].isMut = true → ∃ x, es[i].Holds x w' ∧ (∀ t, o.dst = some t → v = x) ∧ ∀ t, namedO l i o t → a.eval (.tmp t) = x) →
          Run P c (.inRegion l.toArray (Region.linearise.go .any l.toArray fuel (t / (Region.ready .any l.toArray listed).length) (listed.setIfInBounds i true) []) :: k) Q (a.put o.dst v) w' :=
        fun hx hx' hv hvm => ih _ _ _ _ (h.next hok hop hm hS ho' he hun hr hx hx' hv hvm) hcount
      -- what the operation reads
      let ρ : Operand → Value := fun x => match x with
        | .tmp t => bif (o.looksAt l.toArray).contains t then a.eval (.tmp t) else ((stN l es (know0 env) i).env.get t).getD undef
        | x => a.eval x
      have hρt : ∀ t, t ∈ o.looksAt l.toArray → ρ (.tmp t) = a.eval (.tmp t) := by
        intro t ht
        have : (o.looksAt l.toArray).contains t = true := by simpa using ht
        simp only [ρ, this, cond_true]
      have hgo : Goes l.toArray (stN l es (know0 env) i) o w ρ := by
        refine ⟨?_, ?_⟩
        · intro x v hx
          cases x with
          | tmp t =>
            by_cases ht : t ∈ o.looksAt l.toArray
            · rw [hρt t ht]
              have := h.read hok ho' hie hun hr ht hx
              simp [Act.eval, this]
            · have hb : (o.looksAt l.toArray).contains t = false := by simpa using ht
              simp only [evO] at hx
              simp only [ρ, hb, cond_false, hx, Option.getD_some]
          | const u => simpa [evO, Act.eval, ρ] using hx
          | global g => simpa [evO, Act.eval, ρ] using hx
          | func f => simpa [evO, Act.eval, ρ] using hx
        · intro d V hd hl
          rw [hρt d hl]
          exact h.readS hok ho' hie hr hl hd
      have hcong : isSel o.op = false → execOp ρ o = execOp a.eval o := by
        intro hs
        refine execOp_congr o (fun cs b e => by rw [e] at hs; simp [isSel] at hs) fun x hx => ?_
        cases x with
        | tmp t =>
          refine hρt t ?_
          exact List.mem_append_left _ (List.mem_filterMap.2 ⟨.tmp t, by simpa using hx, rfl⟩)
        | _ => rfl
      have hwant : ∀ b, wantE l.toArray.toList (stN l es (know0 env) i).env o = some b → Region.wanted o (yielded l.toArray a.tmps) = b := by
        intro b hb
        unfold wantE at hb
        unfold Region.wanted
        split at hb
        · rename_i hg; simp at hb; subst hb; simp [hg]
        · rename_i j b0 hg
          rw [hg]
          split at hb
          · rename_i t' ht'
            have hd : (l.toArray[j]?).bind (·.dst) = some t' := by simpa using ht'
            have hlook : t' ∈ o.looksAt l.toArray := List.mem_append_right _ (by simp only [hg, hd]; simp)
            split at hb
            · rename_i b' hb'
              have := h.read hok ho' hie hun hr hlook hb'
              simp only [yielded, hd, Option.bind_some, this]
              simp at hb; subst hb
              cases b0 <;> cases b' <;> rfl
            · rename_i hb'
              have := h.read hok ho' hie hun hr hlook hb'
              simp only [yielded, hd, Option.bind_some, this]
              simp at hb; subst hb
              cases b0 <;> rfl
            · simp at hb
          · simp at hb
      cases hE : es[i] with
      | val v =>
        rw [hE] at hO step
        obtain ⟨hdk, hsel, hw | ⟨hw, hdf, hex⟩⟩ := hO
        · refine Run.opSkip (by rw [ho]; simp [hwant _ hw.1]) ?_
          rw [ho]
          exact step (hS.refl w) (fun _ => ExtB.refl _ w) (fun _ => hw.2.symm) (fun hf => by simp [Ent.isMut] at hf)
        · refine Run.op ho (hwant _ hw) hdf ?_
          rw [← hcong hsel]
          have hW : if E.contains (stN l es (know0 env) i).mu.length = true then Ext w0 w else S w0 w := by
            have hlen : (stN l es (know0 env) i).mu.length = i := by
              rw [stN_mu i (by omega) (by omega), List.length_reverse, List.length_map, List.length_take]; omega
            rw [hlen]
            split
            · rename_i hE'
              rcases h.wri with ⟨h1, -⟩ | ⟨j, x, U, hj, hx, h2, -⟩
              · exact h1
              · exfalso
                have hjl : j < l.length := by have := h.lt j hj; omega
                have ho := hear i (by simpa using hE') j (mu_getD.2 ⟨_, h2, rfl⟩) hjl
                exact hun (ord_listed h.down ho fun o e h1 h2 h3 => h.down j o e hj h1 h2 h3)
            · exact h.ext
          exact (hex w ρ hW hgo).mono (fun u w' hu => step (hS.of_ext hu.2) (fun _ => hu.2) (fun _ => hu.1) (fun hf => by simp [Ent.isMut] at hf)) (fun _ _ hf => hf.elim)
      | sat V =>
        rw [hE] at hO step
        obtain ⟨hdk, hsel, hw, hdf, -, hex⟩ := hO
        refine Run.op ho (hwant _ hw) hdf ?_
        rw [← hcong hsel]
        exact (hex w ρ h.ext hgo).mono (fun u w' hu => step (hS.of_ext hu.1) (fun _ => hu.1) (fun _ => hu.2) (fun hf => by simp [Ent.isMut] at hf)) (fun _ _ hf => hf.elim)
      | pre V =>
        rw [hE] at hO step
        obtain ⟨hdk, hsel, hw, hdf, -, hex⟩ := hO
        refine Run.op ho (hwant _ hw) hdf ?_
        rw [← hcong hsel]
        exact (hex w ρ h.ext hgo).mono (fun u w' hu => step (hS.of_ext hu.1) (fun _ => hu.1) (fun _ => hu.2) (fun hf => by simp [Ent.isMut] at hf)) (fun _ _ hf => hf.elim)
      | wri V =>
        rw [hE] at hO step
        obtain ⟨hdk, hsel, hw, hdf, -, hex⟩ := hO
        refine Run.op ho (hwant _ hw) hdf ?_
        rw [← hcong hsel]
        have hnone : (stN l es (know0 env) i).ph = none → ∀ (j : Nat) e, Lst listed j → es[j]? = some e → e.isMut = false := by
          intro hp j e' hj he'
          have hph := stN_ph (l := l) (es := es) (env := env) i (by omega) (by omega)
          rw [hp] at hph
          simp only at hph
          rw [hE] at he
          cases hm' : e'.isMut with
          | false => rfl
          | true =>
            have hlt := wri_lt hok hm h he rfl hun hj he' hm'
            have := hph j _ hlt he'; rw [hm'] at this; simp at this
        refine (hex w ρ ?_ hgo (fun hp d V hd hl => by rw [hρt d hl]; exact h.readP hok ho' hie hr (hnone hp) hl hd)).mono (fun u w' hu => step hu.1 (fun hf => by simp [Ent.isMut] at hf) (fun hf => by simp [Ent.isMut] at hf) (fun _ => by
          obtain ⟨x, hx1, hx2, hx3⟩ := hu.2
          refine ⟨x, hx1, hx2, fun t ht => ?_⟩
          obtain ⟨q1, ⟨ty, yy, q2⟩, -⟩ := ht
          rw [← hρt t (look_store q2)]
          exact hx3 ty t yy q1 q2)) (fun _ _ hf => hf.elim)
        have hph := stN_ph (l := l) (es := es) (env := env) i (by omega) (by omega)
        unfold PhOk
        rw [hE] at he
        cases hp : (stN l es (know0 env) i).ph with
        | none =>
          rw [hp] at hph
          simp only at hph ⊢
          rcases h.wri with ⟨h1, -⟩ | ⟨j, x, U, hj, -, h2, -⟩
          · exact h1
          · have hlt := wri_lt hok hm h he rfl hun hj h2 rfl
            have := hph j _ hlt h2; simp [Ent.isMut] at this
        | some y =>
          obtain ⟨d, U⟩ := y
          rw [hp] at hph
          simp only at hph ⊢
          obtain ⟨j, x, hj, h1, h2, h3, h4⟩ := hph
          have hlj : Lst listed j := by
            rcases hok.pair j i x o hj h1 ho' with h5 | ⟨-, -, h5⟩
            · exact ord_listed h.down h5 fun o' e h2 h3 h4 => by
                rw [ho'] at h2; injection h2 with h2; subst h2; exact hr e h3 h4
            · exact absurd ⟨mu_getD.2 ⟨_, h3, rfl⟩, mu_getD.2 ⟨_, he, rfl⟩⟩ h5
          rcases h.wri with ⟨-, h5⟩ | ⟨i', o', U', hi', h5, h6, h7, y, h8, h9, -⟩
          · have := h5 j _ hlj h3; simp [Ent.isMut] at this
          · have hij : i' = j := by
              have h10 := h7 j _ hlj h3 rfl
              rcases Nat.lt_or_eq_of_le h10 with hlt | heq
              · have h11 := wri_lt hok hm h he rfl hun hi' h6 rfl
                have := h4 i' _ hlt h11 h6; simp [Ent.isMut] at this
              · exact heq.symm
            subst hij
            rw [h1] at h5; injection h5 with h5; subst h5
            rw [h3] at h6; injection h6 with h6; injection h6 with h6; subst h6
            exact ⟨h.ext, y, h8, fun t ht hl => by rw [hρt t hl]; exact h9 t (by rw [h2, ht])⟩
end

/-- Of a region whose order is drawn. -/
def Asy (P : Program) (c : Ctx) (n : Nat) (ds : List Deferred) (E : List Nat) (S : World → World → Prop) (w0 : World) (l : List Oper) (k : List Item) (Q : Out → Act → World → Prop) (rest : List Oper) (s : Know) : Prop :=
  ∃ es, AsyF P n E S w0 l.toArray (AsyT P c n ds E S w0 l k Q) es rest s

theorem RunE.draw {P : Program} {c : Ctx} {n : Nat} {ds : List Deferred} {k : List Item} {Q : Out → Act → World → Prop} {env : Env} {w : World} {l : List Oper} {id : Nat} (E : List Nat) (S : World → World → Prop) (hS : RelOk S)
    (hmr : P.follows .mixedOrders = true) (h : ∀ w0, Ext w w0 → Asy P c n ds E S w0 l k Q l (know0 env)) : RunE P c n ds (.code (.region id l.toArray true) :: k) Q env w := fun a ha => by
  refine order_run hmr fun t => ?_
  obtain ⟨es, hF⟩ := h _ ((ExtB.refl _ w).draw (w.drawn + 1) (Nat.le_succ _))
  obtain ⟨hm, hop, htail⟩ := asyF_all hF
  have hmu : (stN l es (know0 env) es.length).mu.reverse = es.map Ent.isMut := by
    rw [stN_mu es.length (Nat.le_refl _) hm, List.reverse_reverse, List.take_length]
  have hok : Okay l (es.map Ent.isMut) := chk_okay (by rw [← hmu]; exact htail.1)
  refine asy_go hok hop hm hS (by rw [← hmu]; exact earChk_ok htail.2.1) htail l.length t _ a _ ?_ ?_
  · have hn : ∀ j, ¬ Lst (Array.replicate l.length false) j := by
      intro j hj
      unfold Lst at hj
      simp only [Array.getD_eq_getD_getElem?, Array.getElem?_replicate] at hj
      split at hj <;> simp at hj
    refine ⟨by simp, ha.size, ha.defers, hS.refl _, fun j hj => (hn j hj).elim, fun j _ _ hj => (hn j hj).elim, fun j _ _ _ hj => (hn j hj).elim, fun j _ _ _ hj => (hn j hj).elim,
      .inl ⟨ExtB.refl _ _, fun j _ hj => (hn j hj).elim⟩, fun t v ht _ => ha.get t v ht, fun _ j _ _ _ hj => (hn j hj).elim⟩
  · refine Nat.le_trans List.count_le_length ?_
    simp
end Go.RnW
/-! AsyKL: its steps. -/
namespace Go.RnW
open Go.RowKit Go.Rn
section
variable {P : Program} {c : Ctx} {k : List Item} {Q : Out → Act → World → Prop} {w0 : World} {n : Nat} {ds : List Deferred} {env : Env} {E : List Nat} {S : World → World → Prop} {sats pres : List (Nat × Pred)} {ph : Option (Option Nat × Pred)} {mu : List Bool}
variable {l : List Oper} {d : Tmp} {op : Op} {ty : TypeId} {pos : String} {after : Array Edge} {guard : Option (Nat × Bool)} {rest : List Oper}
theorem Asy.step {o : Oper} {s : Know} {e : Ent} (h : OpOk P n E S w0 l.toArray s o e) (h' : Asy P c n ds E S w0 l k Q rest (s.add o.dst e)) : Asy P c n ds E S w0 l k Q (o :: rest) s :=
  let ⟨es, hes⟩ := h'; ⟨e :: es, h, hes⟩
/-- A value that the world does not touch. -/
theorem Asy.pure {T : Tab} (hT : T.Ok P) {v : Value} (hw : wantE l env ⟨some d, op, ty, pos, after, guard⟩ = some true) (hdst : Nat.blt d n = true) (hv : evalOp T env op = some v)
    (h : Asy P c n ds E S w0 l k Q rest ⟨(d, v) :: env, sats, ph, false :: mu, pres⟩) : Asy P c n ds E S w0 l k Q (⟨some d, op, ty, pos, after, guard⟩ :: rest) ⟨env, sats, ph, mu, pres⟩ :=
  .step (e := .val v) ⟨hdst, evalOp_notSel hv, .inr ⟨hw, evalOp_notDefer hv, fun w' ρ _ hg => (evalOp_v (w := w') hT (o := ⟨some d, op, ty, pos, after, guard⟩) hv).e ρ hg.ev |>.mono (fun _ _ h => ⟨h.1, by rw [h.2]; exact ExtB.refl _ _⟩) (fun _ _ h => h)⟩⟩ h
theorem Asy.val {v : Value} (hw : wantE l env ⟨some d, op, ty, pos, after, guard⟩ = some true) (hdst : Nat.blt d n = true) (hd : isDefer op = false) (hs : isSel op = false)
    (hv : ∀ w', OpV P env w' ⟨some d, op, ty, pos, after, guard⟩ v)
    (h : Asy P c n ds E S w0 l k Q rest ⟨(d, v) :: env, sats, ph, false :: mu, pres⟩) : Asy P c n ds E S w0 l k Q (⟨some d, op, ty, pos, after, guard⟩ :: rest) ⟨env, sats, ph, mu, pres⟩ :=
  .step (e := .val v) ⟨hdst, hs, .inr ⟨hw, hd, fun w' ρ _ hg => (hv w').e ρ hg.ev |>.mono (fun _ _ h => ⟨h.1, by rw [h.2]; exact ExtB.refl _ _⟩) (fun _ _ h => h)⟩⟩ h
/-- It comes before all that write. -/
theorem Asy.early {v : Value} (he : E.contains mu.length = true) (hw : wantE l env ⟨some d, op, ty, pos, after, guard⟩ = some true) (hdst : Nat.blt d n = true) (hd : isDefer op = false) (hs : isSel op = false)
    (hv : ∀ w', Ext w0 w' → OpV P env w' ⟨some d, op, ty, pos, after, guard⟩ v)
    (h : Asy P c n ds E S w0 l k Q rest ⟨(d, v) :: env, sats, ph, false :: mu, pres⟩) : Asy P c n ds E S w0 l k Q (⟨some d, op, ty, pos, after, guard⟩ :: rest) ⟨env, sats, ph, mu, pres⟩ :=
  .step (e := .val v) ⟨hdst, hs, .inr ⟨hw, hd, fun w' ρ hx hg => (hv w' (by rw [if_pos he] at hx; exact hx)).e ρ hg.ev |>.mono (fun _ _ h => ⟨h.1, by rw [h.2]; exact ExtB.refl _ _⟩) (fun _ _ h => h)⟩⟩ h
theorem Asy.vS {v : Value} (hw : wantE l env ⟨some d, op, ty, pos, after, guard⟩ = some true) (hdst : Nat.blt d n = true) (hd : isDefer op = false) (hs : isSel op = false)
    (hv : ∀ w', S w0 w' → OpV P env w' ⟨some d, op, ty, pos, after, guard⟩ v)
    (h : Asy P c n ds [] S w0 l k Q rest ⟨(d, v) :: env, sats, ph, false :: mu, pres⟩) : Asy P c n ds [] S w0 l k Q (⟨some d, op, ty, pos, after, guard⟩ :: rest) ⟨env, sats, ph, mu, pres⟩ :=
  .step (e := .val v) ⟨hdst, hs, .inr ⟨hw, hd, fun w' ρ hx hg => (hv w' (by simpa using hx)).e ρ hg.ev |>.mono (fun _ _ h => ⟨h.1, by rw [h.2]; exact ExtB.refl _ _⟩) (fun _ _ h => h)⟩⟩ h
/-- A call and the like: the value is known, nothing that was there is changed. -/
theorem Asy.eS {v : Value} (hw : wantE l env ⟨some d, op, ty, pos, after, guard⟩ = some true) (hdst : Nat.blt d n = true) (hd : isDefer op = false) (hs : isSel op = false)
    (hv : ∀ w', S w0 w' → OpE P env w' ⟨some d, op, ty, pos, after, guard⟩ (fun u w'' => u = v ∧ Ext w' w'') fun _ _ => False)
    (h : Asy P c n ds [] S w0 l k Q rest ⟨(d, v) :: env, sats, ph, false :: mu, pres⟩) : Asy P c n ds [] S w0 l k Q (⟨some d, op, ty, pos, after, guard⟩ :: rest) ⟨env, sats, ph, mu, pres⟩ :=
  .step (e := .val v) ⟨hdst, hs, .inr ⟨hw, hd, fun w' ρ hx hg => hv w' (by simpa using hx) ρ hg.ev⟩⟩ h
theorem Asy.unwantedD (hw : wantE l env ⟨some d, op, ty, pos, after, guard⟩ = some false) (hdst : Nat.blt d n = true) (hs : isSel op = false)
    (h' : Asy P c n ds [] S w0 l k Q rest ⟨(d, undef) :: env, sats, ph, false :: mu, pres⟩) : Asy P c n ds [] S w0 l k Q (⟨some d, op, ty, pos, after, guard⟩ :: rest) ⟨env, sats, ph, mu, pres⟩ :=
  .step (e := .val undef) ⟨hdst, hs, .inl ⟨hw, rfl⟩⟩ h'
theorem Asy.sat0 (V : Pred) (hw : wantE l env ⟨some d, op, ty, pos, after, guard⟩ = some true) (hdst : Nat.blt d n = true) (hd : isDefer op = false) (hs : isSel op = false)
    (hV : ∀ v w' w'', S w0 w' → S w' w'' → V v w' → V v w'')
    (h : ∀ w', S w0 w' → OpE P env w' ⟨some d, op, ty, pos, after, guard⟩ (fun u w'' => Ext w' w'' ∧ V u w'') fun _ _ => False)
    (h' : Asy P c n ds [] S w0 l k Q rest ⟨env.del (some d), (d, V) :: sats, ph, false :: mu, pres⟩) : Asy P c n ds [] S w0 l k Q (⟨some d, op, ty, pos, after, guard⟩ :: rest) ⟨env, sats, ph, mu, pres⟩ :=
  .step (e := .sat V) ⟨hdst, hs, hw, hd, hV, fun w' ρ hx hg => h w' hx ρ hg.ev⟩ h'
theorem Asy.sat1 (i : Nat) {t : Nat} {U : Pred} (V : Pred) (hi : sats[i]? = some (t, U)) (hl : (Oper.looksAt l.toArray ⟨some d, op, ty, pos, after, guard⟩).contains t = true)
    (hw : wantE l env ⟨some d, op, ty, pos, after, guard⟩ = some true) (hdst : Nat.blt d n = true) (hd : isDefer op = false) (hs : isSel op = false)
    (hV : ∀ v w' w'', S w0 w' → S w' w'' → V v w' → V v w'')
    (h : ∀ w' x, S w0 w' → U x w' → OpE P ((t, x) :: env) w' ⟨some d, op, ty, pos, after, guard⟩ (fun u w'' => Ext w' w'' ∧ V u w'') fun _ _ => False)
    (h' : Asy P c n ds [] S w0 l k Q rest ⟨env.del (some d), (d, V) :: sats, ph, false :: mu, pres⟩) : Asy P c n ds [] S w0 l k Q (⟨some d, op, ty, pos, after, guard⟩ :: rest) ⟨env, sats, ph, mu, pres⟩ :=
  .step (e := .sat V) ⟨hdst, hs, hw, hd, hV, fun w' ρ hx hg => h w' _ hx (hg.sat t U (List.mem_of_getElem? hi) (by simpa using hl)) ρ (ev_cons hg.ev rfl)⟩ h'
/-- Its value is known; it reads one value that is known by a lasting law. -/
theorem Asy.val1 (i : Nat) {t : Nat} {U : Pred} {v : Value} (hi : sats[i]? = some (t, U)) (hl : (Oper.looksAt l.toArray ⟨some d, op, ty, pos, after, guard⟩).contains t = true)
    (hw : wantE l env ⟨some d, op, ty, pos, after, guard⟩ = some true) (hdst : Nat.blt d n = true) (hd : isDefer op = false) (hs : isSel op = false)
    (h : ∀ w' x, S w0 w' → U x w' → OpE P ((t, x) :: env) w' ⟨some d, op, ty, pos, after, guard⟩ (fun u w'' => u = v ∧ Ext w' w'') fun _ _ => False)
    (h' : Asy P c n ds [] S w0 l k Q rest ⟨(d, v) :: env, sats, ph, false :: mu, pres⟩) : Asy P c n ds [] S w0 l k Q (⟨some d, op, ty, pos, after, guard⟩ :: rest) ⟨env, sats, ph, mu, pres⟩ :=
  .step (e := .val v) ⟨hdst, hs, .inr ⟨hw, hd, fun w' ρ hx hg => h w' _ (by simpa using hx) (hg.sat t U (List.mem_of_getElem? hi) (by simpa using hl)) ρ (ev_cons hg.ev rfl)⟩⟩ h'
/-- It stores a value that is known by a law at an address that is known by a law. -/
theorem Asy.wri2 (i j : Nat) {t s : Nat} {U U' : Pred} {tt : TypeId} {y : Operand} (V : Pred) (hi : sats[i]? = some (t, U)) (hj : sats[j]? = some (s, U'))
    (hw : wantE l env ⟨none, .store tt (.tmp t) y, ty, pos, after, guard⟩ = some true)
    (hl' : (Oper.looksAt l.toArray ⟨none, .store tt (.tmp t) y, ty, pos, after, guard⟩).contains s = true)
    (hV : ∀ v w' w'', S w0 w' → Ext w' w'' → V v w' → V v w'')
    (h : ∀ w' x z, Ext w0 w' → U x w' → U' z w' → OpE P ((t, x) :: (s, z) :: env) w' ⟨none, .store tt (.tmp t) y, ty, pos, after, guard⟩ (fun _ w'' => S w' w'' ∧ V x w'') fun _ _ => False)
    (h' : Asy P c n ds [] S w0 l k Q rest ⟨env, sats, some (none, V), true :: mu, pres⟩) : Asy P c n ds [] S w0 l k Q (⟨none, .store tt (.tmp t) y, ty, pos, after, guard⟩ :: rest) ⟨env, sats, none, mu, pres⟩ :=
  .step (e := .wri V) ⟨rfl, rfl, hw, rfl, hV, fun w' ρ hx hg _ => (h w' _ _ hx (hg.sat t U (List.mem_of_getElem? hi) (look_store rfl)) (hg.sat s U' (List.mem_of_getElem? hj) (by simpa using hl')) ρ (ev_cons (ev_cons hg.ev rfl) rfl)).mono
    (fun u w'' hu => ⟨hu.1, _, hu.2, fun t ht => by simp at ht, fun ty' t' y' _ he => by injection he with _ h1 _; injection h1 with h1; subst h1; rfl⟩) (fun _ _ h => h)⟩ h'
/-- It stores a value that is known at an address that is known by a law. -/
theorem Asy.wri1 (i : Nat) {t : Nat} {U : Pred} {tt : TypeId} {y : Operand} (V : Pred) (hi : sats[i]? = some (t, U))
    (hw : wantE l env ⟨none, .store tt (.tmp t) y, ty, pos, after, guard⟩ = some true)
    (hV : ∀ v w' w'', S w0 w' → Ext w' w'' → V v w' → V v w'')
    (h : ∀ w' x, Ext w0 w' → U x w' → OpE P ((t, x) :: env) w' ⟨none, .store tt (.tmp t) y, ty, pos, after, guard⟩ (fun _ w'' => S w' w'' ∧ V x w'') fun _ _ => False)
    (h' : Asy P c n ds [] S w0 l k Q rest ⟨env, sats, some (none, V), true :: mu, pres⟩) : Asy P c n ds [] S w0 l k Q (⟨none, .store tt (.tmp t) y, ty, pos, after, guard⟩ :: rest) ⟨env, sats, none, mu, pres⟩ :=
  .step (e := .wri V) ⟨rfl, rfl, hw, rfl, hV, fun w' ρ hx hg _ => (h w' _ hx (hg.sat t U (List.mem_of_getElem? hi) (look_store rfl)) ρ (ev_cons hg.ev rfl)).mono
    (fun u w'' hu => ⟨hu.1, _, hu.2, fun t ht => by simp at ht, fun ty' t' y' _ he => by injection he with _ h1 _; injection h1 with h1; subst h1; rfl⟩) (fun _ _ h => h)⟩ h'
theorem get_xs {xs : Nat → Value} {B : Env} {t : Nat} : ∀ {A : Env}, (∀ e ∈ A, e.2 = xs e.1) → Env.get (A ++ B) t = if t ∈ A.map (·.1) then some (xs t) else Env.get B t := by
  intro A
  induction A with
  | nil => intro _; simp
  | cons e A ih =>
    intro h
    obtain ⟨s, v⟩ := e
    have hv : v = xs s := h (s, v) List.mem_cons_self
    subst hv
    by_cases hs : s = t
    · subst hs
      rw [List.cons_append, Env.get_cons_same]; simp
    · rw [List.cons_append, Env.get_cons_ne hs, ih fun e he => h e (List.mem_cons_of_mem _ he)]
      have e : (t ∈ ((s, xs s) :: A).map (·.1)) ↔ t ∈ A.map (·.1) := by
        rw [List.map_cons, List.mem_cons]
        exact ⟨fun h => h.resolve_left fun e => hs e.symm, .inr⟩
      by_cases h1 : t ∈ A.map (·.1)
      · rw [if_pos h1, if_pos (e.2 h1)]
      · rw [if_neg h1, if_neg fun h => h1 (e.1 h)]
def namedB (l : List Oper) (j t : Nat) : Bool := match l[j]? with
  | some o => o.dst.isNone && (match o.op with | .store _ (.tmp s) _ => Nat.beq s t | _ => false) && (l.take j).any fun x => match x.dst with | some s => Nat.beq s t | none => false
  | none => false
theorem namedB_spec {l : List Oper} {j t : Nat} (h : namedB l j t = true) : ∃ o, l[j]? = some o ∧ namedO l j o t := by
  unfold namedB at h
  split at h
  · rename_i o ho
    simp only [Bool.and_eq_true, Option.isNone_iff_eq_none, List.any_eq_true] at h
    obtain ⟨⟨h1, h2⟩, x, hx, h3⟩ := h
    refine ⟨o, ho, h1, ?_, ?_⟩
    · split at h2
      · rename_i ty s y he
        have := Nat.eq_of_beq_eq_true h2
        subst this
        exact ⟨ty, y, he⟩
      · simp at h2
    · obtain ⟨i, hi, e⟩ := List.getElem_of_mem hx
      have hij : i < j := by rw [List.length_take] at hi; omega
      refine ⟨i, x, hij, ?_, ?_⟩
      · rw [List.getElem_take] at e
        rw [← e]; exact List.getElem?_eq_getElem _
      · split at h3
        · rename_i s hs
          have := Nat.eq_of_beq_eq_true h3
          subst this; exact hs
        · simp at h3
  · simp at h
/-- The rest goes in order; the address (of the value i, which is known by a law) at which something was stored is known with what was stored. -/
theorem Asy.tail1 (i j : Nat) {t : Nat} {U V : Pred} (hc : chk l mu.reverse l [] = true) (he : earChk mu.reverse [] l [] = true) (hi : sats[i]? = some (t, U)) (hj : lastMut mu = some j) (hn : namedB l j t = true)
    (h : ∀ w' x, S w0 w' → V x w' → U x w' → satsAll (sats.eraseIdx i) w' ((t, x) :: env) fun e => RunL P c n ds l.toArray rest k Q e w') :
    Asy P c n ds [] S w0 l k Q rest ⟨env, sats, some (none, V), mu, pres⟩ :=
  ⟨[], hc, he, fun w' xs hx hs hp k' hk' a ha => by
    obtain ⟨x, hV, -, hnm⟩ := hp
    obtain ⟨o, ho, hno⟩ := namedB_spec hn
    have hxt := hnm j o t hj ho hno
    subst hxt
    refine satsAll_run (xs := xs) (sats.eraseIdx i) _ (fun d V hd => hs d V (List.mem_of_mem_eraseIdx hd)) (h w' _ hx hV (hs t U (List.mem_of_getElem? hi))) k' hk' a (ha.sub fun t' v ht => ?_)
    show Env.get ((sats.map fun s => (s.1, xs s.1)) ++ env) t' = some v
    have hA : ∀ (ss : List (Nat × Pred)), ∀ e ∈ ss.map (fun s => (s.1, xs s.1)), e.2 = xs e.1 := fun ss e he => by
      obtain ⟨s, -, rfl⟩ := List.mem_map.1 he; rfl
    have ht2 := get_swap (A := (sats.eraseIdx i).map fun s => (s.1, xs s.1)) (xs := xs) (fun t v hm => hA _ (t, v) hm) t' v ht
    rw [get_xs (hA _)] at ht2 ⊢
    by_cases h1 : t' ∈ ((sats.eraseIdx i).map fun s => (s.1, xs s.1)).map (·.1)
    · rw [if_pos h1] at ht2
      rw [if_pos, ht2]
      simp only [List.map_map, List.mem_map, Function.comp_apply] at h1 ⊢
      obtain ⟨s, hs1, hs2⟩ := h1
      exact ⟨s, List.mem_of_mem_eraseIdx hs1, hs2⟩
    · rw [if_neg h1] at ht2
      by_cases h2 : t = t'
      · subst h2
        rw [Env.get_cons_same] at ht2
        rw [if_pos, ht2]
        simp only [List.map_map, List.mem_map, Function.comp_apply]
        exact ⟨_, List.mem_of_getElem? hi, rfl⟩
      · rw [Env.get_cons_ne h2] at ht2
        rw [if_neg, ht2]
        intro h3
        simp only [List.map_map, List.mem_map, Function.comp_apply] at h1 h3
        obtain ⟨s, hs1, hs2⟩ := h3
        obtain ⟨m, hm⟩ := List.getElem?_of_mem hs1
        by_cases h4 : m = i
        · subst h4
          rw [hi] at hm; injection hm with hm
          subst hm
          exact h2 hs2
        · exact h1 ⟨s, List.mem_eraseIdx_iff_getElem?.2 ⟨m, h4, hm⟩, hs2⟩⟩
theorem Asy.sat1P {T : Tab} (hT : T.Ok P) (i : Nat) {t : Nat} {U : Pred} (V : Pred) (hi : sats[i]? = some (t, U)) (hl : (Oper.looksAt l.toArray ⟨some d, op, ty, pos, after, guard⟩).contains t = true)
    (hw : wantE l env ⟨some d, op, ty, pos, after, guard⟩ = some true) (hdst : Nat.blt d n = true) (hd : isDefer op = false) (hs : isSel op = false)
    (hV : ∀ v w' w'', S w0 w' → S w' w'' → V v w' → V v w'')
    (h : ∀ w' x, S w0 w' → U x w' → ∃ y, evalOp T ((t, x) :: env) op = some y ∧ V y w')
    (h' : Asy P c n ds [] S w0 l k Q rest ⟨env.del (some d), (d, V) :: sats, ph, false :: mu, pres⟩) : Asy P c n ds [] S w0 l k Q (⟨some d, op, ty, pos, after, guard⟩ :: rest) ⟨env, sats, ph, mu, pres⟩ :=
  .sat1 i V hi hl hw hdst hd hs hV (fun w' x s hx => by
    obtain ⟨y, h1, h2⟩ := h w' x s hx
    refine OpE.mono (OpV.e (evalOp_v (o := ⟨some d, op, ty, pos, after, guard⟩) hT h1)) ?_ fun _ _ h => h
    rintro _ _ ⟨rfl, rfl⟩
    exact ⟨ExtB.refl _ _, h2⟩) h'
theorem Asy.val1P {T : Tab} (hT : T.Ok P) (i : Nat) {t : Nat} {U : Pred} {v : Value} (hi : sats[i]? = some (t, U)) (hl : (Oper.looksAt l.toArray ⟨some d, op, ty, pos, after, guard⟩).contains t = true)
    (hw : wantE l env ⟨some d, op, ty, pos, after, guard⟩ = some true) (hdst : Nat.blt d n = true) (hd : isDefer op = false) (hs : isSel op = false)
    (h : ∀ w' x, S w0 w' → U x w' → evalOp T ((t, x) :: env) op = some v)
    (h' : Asy P c n ds [] S w0 l k Q rest ⟨(d, v) :: env, sats, ph, false :: mu, pres⟩) : Asy P c n ds [] S w0 l k Q (⟨some d, op, ty, pos, after, guard⟩ :: rest) ⟨env, sats, ph, mu, pres⟩ :=
  .val1 i hi hl hw hdst hd hs (fun w' x s hx => by
    refine OpE.mono (OpV.e (evalOp_v (o := ⟨some d, op, ty, pos, after, guard⟩) hT (h w' x s hx))) ?_ fun _ _ h => h
    rintro _ _ ⟨rfl, rfl⟩
    exact ⟨rfl, ExtB.refl _ _⟩) h'
end
/-- Of the blocks that were there, only new ones of this type are changed; they keep type and size. -/
def isT (T : TypeId) (n0 : Nat) (w : World) (k : Nat) : Prop := n0 ≤ k ∧ ∃ cs : Array Value, w.heap[k]? = some (.cells cs T (0, 0))
def onlyT (T : TypeId) (n0 : Nat) (a c : World) : Prop := ExtB (isT T n0 a) a c ∧ ∀ (k : Nat) (cs : Array Value), a.heap[k]? = some (.cells cs T (0, 0)) → ∃ cs', c.heap[k]? = some (.cells cs' T (0, 0)) ∧ cs'.size = cs.size
theorem onlyT_ok (T : TypeId) (n0 : Nat) : RelOk (onlyT T n0) where
  refl := fun w => ⟨ExtB.refl _ _, fun k cs h => ⟨cs, h, rfl⟩⟩
  trans := by
    rintro a b c ⟨e1, h1⟩ ⟨e2, h2⟩
    refine ⟨?_, fun k cs h => ?_⟩
    · have e3 : ExtB (fun k => isT T n0 a k ∨ a.heap.size ≤ k) a c := by
        refine ExtB.trans (e1.mono fun k _ h => .inl h) (e2.mono fun k hk h => ?_)
        rcases Nat.lt_or_ge k a.heap.size with hlt | hge
        · obtain ⟨h3, cs, h4⟩ := h
          by_cases h5 : isT T n0 a k
          · exact .inl h5
          · rw [e1.block k hlt h5] at h4
            exact absurd ⟨h3, cs, h4⟩ h5
        · exact .inr hge
      exact e3.mono fun k hk h => by
        rcases h with h | h
        · exact h
        · omega
    · obtain ⟨cs1, g1, g2⟩ := h1 k cs h
      obtain ⟨cs2, g3, g4⟩ := h2 k cs1 g1
      exact ⟨cs2, g3, g4.trans g2⟩
  of_ext := fun {a b} e => ⟨ExtB.of_ext e, fun k cs h => ⟨cs, by rw [e.block k (lt_of_get h) id]; exact h, rfl⟩⟩
theorem onlyT.row {T : TypeId} {n0 : Nat} {a c : World} {b o : Nat} {cs : List Value} (s : onlyT T n0 a c) (h : Row a b o cs) (hb : b < n0) : Row c b o cs := h.ext s.1 fun h => by have := h.1; omega
theorem onlyT.blk {T t : TypeId} {n0 : Nat} {a c : World} {b : Nat} {cs : List Value} (s : onlyT T n0 a c) (h : Blk a b cs t) (hb : b < n0) : Blk c b cs t := h.ext s.1 fun h => by have := h.1; omega
theorem onlyT.owns {T e : TypeId} {n0 : Nat} {a c : World} {base sz n : Nat} {v : Value} {xs : List Value} (s : onlyT T n0 a c) (h : a.ownsRow base e sz v n xs) (he : e ≠ T) : c.ownsRow base e sz v n xs := ownsRow_ext h s.1 fun k hk hs => by
  obtain ⟨-, cs, hcs⟩ := hs
  rcases h.2 with ⟨rfl, -⟩ | ⟨g, cap, cur, rfl, -, hg, -⟩
  · simp [Value.ownBlock] at hk
  · simp [Value.ownBlock] at hk
    subst hk
    rw [hg] at hcs
    simp at hcs
    exact he hcs.2
/-- A new variable of this type, whatever it holds. -/
def newT (T : TypeId) (n0 sz : Nat) (x : Value) (w : World) : Prop := ∃ (B : Nat) (cs : Array Value), x = .pointer (some ⟨B, 0, none⟩) ∧ n0 ≤ B ∧ w.heap[B]? = some (.cells cs T (0, 0)) ∧ cs.size = sz
theorem newT.keep {T : TypeId} {n0 sz : Nat} {x : Value} {a c : World} (h : newT T n0 sz x a) (s : onlyT T n0 a c) : newT T n0 sz x c := by
  obtain ⟨B, cs, h1, h2, h3, h4⟩ := h
  obtain ⟨cs', h5, h6⟩ := s.2 B cs h3
  exact ⟨B, cs', h1, h2, h5, h6.trans h4⟩
theorem onlyT.turn {T : TypeId} {n0 B sz : Nat} {a c : World} {cs cs' : Array Value} (h : a.heap[B]? = some (.cells cs T (0, 0))) (hs : cs.size = sz) (hn : n0 ≤ B) (t : Turned a c B (.cells cs' T (0, 0))) (hs' : cs'.size = sz) : onlyT T n0 a c := by
  refine ⟨t.ext.mono fun k _ hk => ?_, fun k ds hk => ?_⟩
  · have hk : k = B := hk
    subst hk; exact ⟨hn, cs, h⟩
  · by_cases e : k = B
    · subst e
      rw [h] at hk
      injection hk with hk; injection hk with hk
      subst hk
      exact ⟨cs', t.at_, hs'.trans hs.symm⟩
    · exact ⟨ds, by rw [t.ext.block k (lt_of_get hk) e]; exact hk, rfl⟩
end Go.RnW
