/- Operations, each said once; then used in the text's order or where the order is drawn. -/
import Derived.Test.YtgccoipbcbccnaaAsy
set_option linter.unusedSimpArgs false
set_option linter.unusedVariables false
set_option linter.unusedSectionVars false
namespace Go.Rn
open Go.RowKit

/-- One operation, wherever it stands. -/
def OpE (P : Program) (env : Env) (w : World) (o : Oper) (R : Value → World → Prop) (X : List PanicEntry → World → Prop) : Prop :=
  ∀ ρ : Operand → Value, (∀ x v, evO env x = some v → ρ x = v) → ExecE P (execOp ρ o) w R X

/-- An operation that changes nothing. -/
def OpV (P : Program) (env : Env) (w : World) (o : Oper) (v : Value) : Prop :=
  ∀ ρ : Operand → Value, (∀ x v, evO env x = some v → ρ x = v) → (execOp ρ o).run P w = .ok (.value v) w

theorem OpV.e {P : Program} {env : Env} {w : World} {o : Oper} {v : Value} (h : OpV P env w o v) : OpE P env w o (fun u w' => u = v ∧ w' = w) fun _ _ => False :=
  fun ρ hρ => .of_value (h ρ hρ) ⟨rfl, rfl⟩
theorem OpE.mono {P : Program} {env : Env} {w : World} {o : Oper} {R R' : Value → World → Prop} {X X' : List PanicEntry → World → Prop} (h : OpE P env w o R X) (hR : ∀ v w, R v w → R' v w)
    (hX : ∀ v w, X v w → X' v w) : OpE P env w o R' X' := fun ρ hρ => (h ρ hρ).mono hR hX

section
variable {P : Program} {c : Ctx} {k : List Item} {Q : Out → Act → World → Prop} {w : World} {n : Nat} {ds : List Deferred} {env : Env}
variable {ops : Array Oper} {d : Tmp} {op : Op} {ty : TypeId} {pos : String} {after : Array Edge} {guard : Option (Nat × Bool)} {rest : List Oper}

theorem RunL.ex {R : Value → World → Prop} (hw : wantE ops.toList env ⟨some d, op, ty, pos, after, guard⟩ = some true) (hdst : Nat.blt d n = true) (hd : isDefer op = false)
    (h : OpE P env w ⟨some d, op, ty, pos, after, guard⟩ R fun _ _ => False) (h' : ∀ v w', R v w' → RunL P c n ds ops rest k Q ((d, v) :: env) w') :
    RunL P c n ds ops (⟨some d, op, ty, pos, after, guard⟩ :: rest) k Q env w :=
  .exec hw hd hdst fun ρ hρ => (h ρ hρ).mono h' fun _ _ h => h.elim
theorem RunL.exN {R : Value → World → Prop} (hw : wantE ops.toList env ⟨none, op, ty, pos, after, guard⟩ = some true) (hd : isDefer op = false)
    (h : OpE P env w ⟨none, op, ty, pos, after, guard⟩ R fun _ _ => False) (h' : ∀ v w', R v w' → RunL P c n ds ops rest k Q env w') :
    RunL P c n ds ops (⟨none, op, ty, pos, after, guard⟩ :: rest) k Q env w :=
  .exec hw hd rfl fun ρ hρ => (h ρ hρ).mono h' fun _ _ h => h.elim
theorem RunL.exX {R : Value → World → Prop} {X : List PanicEntry → World → Prop} (hw : wantE ops.toList env ⟨some d, op, ty, pos, after, guard⟩ = some true) (hdst : Nat.blt d n = true) (hd : isDefer op = false)
    (h : OpE P env w ⟨some d, op, ty, pos, after, guard⟩ R X) (hX : ∀ ch w' a, X ch w' → a.defers = ds → Q (.panic ch) a w') (h' : ∀ v w', R v w' → RunL P c n ds ops rest k Q ((d, v) :: env) w') :
    RunL P c n ds ops (⟨some d, op, ty, pos, after, guard⟩ :: rest) k Q env w :=
  .exec hw hd hdst fun ρ hρ => (h ρ hρ).mono h' fun ch w' hx a ha => hX ch w' a hx ha
theorem RunL.val {v : Value} (hw : wantE ops.toList env ⟨some d, op, ty, pos, after, guard⟩ = some true) (hdst : Nat.blt d n = true) (hd : isDefer op = false)
    (h : OpV P env w ⟨some d, op, ty, pos, after, guard⟩ v) (h' : RunL P c n ds ops rest k Q ((d, v) :: env) w) :
    RunL P c n ds ops (⟨some d, op, ty, pos, after, guard⟩ :: rest) k Q env w :=
  .ex hw hdst hd h.e (by rintro _ _ ⟨rfl, rfl⟩; exact h')
end

/-- One round of a loop, by hand. -/
theorem RunE.unroll {P : Program} {c : Ctx} {k : List Item} {Q : Out → Act → World → Prop} {w : World} {n : Nat} {ds : List Deferred} {env : Env} {body : Code}
    (h : RunE P c n ds (.code body :: .inLoop body :: k) Q env w) : RunE P c n ds (.code (.loop body) :: k) Q env w := fun a ha => .loop (h a ha)
theorem RunE.again {P : Program} {c : Ctx} {k : List Item} {Q : Out → Act → World → Prop} {w : World} {n : Nat} {ds : List Deferred} {env : Env} {body : Code}
    (h : RunE P c n ds (.code body :: .inLoop body :: k) Q env w) : RunE P c n ds (.inLoop body :: k) Q env w := fun a ha => .inLoop (h a ha)
/-- Two ways that meet, without a test. -/
theorem RunE.cut {P : Program} {c : Ctx} {k : List Item} {Q : Out → Act → World → Prop} {w : World} {n : Nat} {ds : List Deferred} {env : Env} {x : Item} {ι : Type} (E : ι → Env) (I : ι → World → Prop)
    (hj : ∀ i w', I i w' → RunE P c n ds k Q (E i) w') (h : (∀ i w', I i w' → RunE P c n ds k Q (E i) w') → RunE P c n ds (x :: k) Q env w) : RunE P c n ds (x :: k) Q env w := h hj

/-! ### Where the order is drawn -/
section
variable {P : Program} {c : Ctx} {k : List Item} {Q : Out → Act → World → Prop} {w0 : World} {n : Nat} {ds : List Deferred} {env : Env} {S : Nat → Prop} {sats pres : List (Nat × Pred)} {ph : Option (Option Nat × Pred)} {mu : List Bool}
variable {l : List Oper} {d : Tmp} {op : Op} {ty : TypeId} {pos : String} {after : Array Edge} {guard : Option (Nat × Bool)} {rest : List Oper}

theorem Asy.step {o : Oper} {s : Know} {e : Ent} (h : OpOk P n S w0 l.toArray s o e) (h' : Asy P c n ds S w0 l k Q rest (s.add o.dst e)) : Asy P c n ds S w0 l k Q (o :: rest) s :=
  let ⟨es, hs⟩ := h'; ⟨e :: es, h, hs⟩

theorem Asy.val {v : Value} (hw : wantE l env ⟨some d, op, ty, pos, after, guard⟩ = some true) (hdst : Nat.blt d n = true) (hd : isDefer op = false) (hs : isSel op = false)
    (h : ∀ w', ExtB S w0 w' → OpE P env w' ⟨some d, op, ty, pos, after, guard⟩ (fun u w'' => u = v ∧ Ext w' w'') fun _ _ => False)
    (h' : Asy P c n ds S w0 l k Q rest ⟨(d, v) :: env, sats, ph, false :: mu, pres⟩) : Asy P c n ds S w0 l k Q (⟨some d, op, ty, pos, after, guard⟩ :: rest) ⟨env, sats, ph, mu, pres⟩ :=
  .step (e := .val v) ⟨hdst, hs, .inr ⟨hw, hd, fun w' ρ hx hg => h w' hx ρ hg.ev⟩⟩ h'

theorem Asy.v {v : Value} (hw : wantE l env ⟨some d, op, ty, pos, after, guard⟩ = some true) (hdst : Nat.blt d n = true) (hd : isDefer op = false) (hs : isSel op = false)
    (h : ∀ w', ExtB S w0 w' → OpV P env w' ⟨some d, op, ty, pos, after, guard⟩ v)
    (h' : Asy P c n ds S w0 l k Q rest ⟨(d, v) :: env, sats, ph, false :: mu, pres⟩) : Asy P c n ds S w0 l k Q (⟨some d, op, ty, pos, after, guard⟩ :: rest) ⟨env, sats, ph, mu, pres⟩ :=
  .val hw hdst hd hs (fun w' hx => (h w' hx).e.mono (by rintro _ _ ⟨rfl, rfl⟩; exact ⟨rfl, ExtB.refl _ _⟩) fun _ _ h => h) h'

theorem evalOp_v {T : Tab} (hT : T.Ok P) {o : Oper} {v : Value} {w : World} (h : evalOp T env o.op = some v) : OpV P env w o v := fun _ hρ => evalOp_ok hT hρ h
theorem evalOp_notSel {T : Tab} {op : Op} {v : Value} (h : evalOp T env op = some v) : isSel op = false := by
  cases op <;> first | rfl | (simp [evalOp] at h)

theorem Asy.pure {T : Tab} (hT : T.Ok P) {v : Value} (hw : wantE l env ⟨some d, op, ty, pos, after, guard⟩ = some true) (hdst : Nat.blt d n = true) (hv : evalOp T env op = some v)
    (h' : Asy P c n ds S w0 l k Q rest ⟨(d, v) :: env, sats, ph, false :: mu, pres⟩) : Asy P c n ds S w0 l k Q (⟨some d, op, ty, pos, after, guard⟩ :: rest) ⟨env, sats, ph, mu, pres⟩ :=
  .v hw hdst (evalOp_notDefer hv) (evalOp_notSel hv) (fun _ _ => evalOp_v hT hv) h'
theorem Asy.pureI {T : Tab} (hT : T.Ok P) {kd : IntKind} {m m' : Int} (hw : wantE l env ⟨some d, op, ty, pos, after, guard⟩ = some true) (hdst : Nat.blt d n = true) (hv : evalOp T env op = some (.int kd m)) (hm : m = m')
    (h' : Asy P c n ds S w0 l k Q rest ⟨(d, .int kd m') :: env, sats, ph, false :: mu, pres⟩) : Asy P c n ds S w0 l k Q (⟨some d, op, ty, pos, after, guard⟩ :: rest) ⟨env, sats, ph, mu, pres⟩ :=
  .pure hT hw hdst hv (by subst hm; exact h')
theorem Asy.pureB {T : Tab} (hT : T.Ok P) {m : Bool} (m' : Bool) (hw : wantE l env ⟨some d, op, ty, pos, after, guard⟩ = some true) (hdst : Nat.blt d n = true) (hv : evalOp T env op = some (.bool m)) (hm : m = m')
    (h' : Asy P c n ds S w0 l k Q rest ⟨(d, .bool m') :: env, sats, ph, false :: mu, pres⟩) : Asy P c n ds S w0 l k Q (⟨some d, op, ty, pos, after, guard⟩ :: rest) ⟨env, sats, ph, mu, pres⟩ :=
  .pure hT hw hdst hv (by subst hm; exact h')
theorem Asy.unwantedD (hw : wantE l env ⟨some d, op, ty, pos, after, guard⟩ = some false) (hdst : Nat.blt d n = true) (hs : isSel op = false)
    (h' : Asy P c n ds S w0 l k Q rest ⟨(d, undef) :: env, sats, ph, false :: mu, pres⟩) : Asy P c n ds S w0 l k Q (⟨some d, op, ty, pos, after, guard⟩ :: rest) ⟨env, sats, ph, mu, pres⟩ :=
  .step (e := .val undef) ⟨hdst, hs, .inl ⟨hw, rfl⟩⟩ h'

/-- Its value is known by a law that lasts. -/
theorem Asy.sat0 (V : Pred) (hw : wantE l env ⟨some d, op, ty, pos, after, guard⟩ = some true) (hdst : Nat.blt d n = true) (hd : isDefer op = false) (hs : isSel op = false)
    (hV : ∀ v w' w'', ExtB S w0 w' → ExtB S w' w'' → V v w' → V v w'')
    (h : ∀ w', ExtB S w0 w' → OpE P env w' ⟨some d, op, ty, pos, after, guard⟩ (fun u w'' => Ext w' w'' ∧ V u w'') fun _ _ => False)
    (h' : Asy P c n ds S w0 l k Q rest ⟨env.del (some d), (d, V) :: sats, ph, false :: mu, pres⟩) : Asy P c n ds S w0 l k Q (⟨some d, op, ty, pos, after, guard⟩ :: rest) ⟨env, sats, ph, mu, pres⟩ :=
  .step (e := .sat V) ⟨hdst, hs, hw, hd, hV, fun w' ρ hx hg => h w' hx ρ hg.ev⟩ h'

theorem ev_cons {t : Nat} {x : Value} {ρ : Operand → Value} (h : ∀ x v, evO env x = some v → ρ x = v) (hx : ρ (.tmp t) = x) : ∀ y v, evO ((t, x) :: env) y = some v → ρ y = v := by
  intro y v hy
  cases y with
  | tmp s =>
    by_cases e : t = s
    · subst e
      simp only [evO, Env.get_cons_same] at hy
      injection hy with hy; rw [← hy]; exact hx
    · simp only [evO, Env.get_cons_ne e] at hy
      exact h _ _ hy
  | const u => exact h _ _ hy
  | global g => exact h _ _ hy
  | func f => exact h _ _ hy

/-- The same; it reads one value that is known so. -/
theorem Asy.sat1 (i : Nat) {t : Nat} {U : Pred} (V : Pred) (hi : sats[i]? = some (t, U)) (hl : (Oper.looksAt l.toArray ⟨some d, op, ty, pos, after, guard⟩).contains t = true)
    (hw : wantE l env ⟨some d, op, ty, pos, after, guard⟩ = some true) (hdst : Nat.blt d n = true) (hd : isDefer op = false) (hs : isSel op = false)
    (hV : ∀ v w' w'', ExtB S w0 w' → ExtB S w' w'' → V v w' → V v w'')
    (h : ∀ w' x, ExtB S w0 w' → U x w' → OpE P ((t, x) :: env) w' ⟨some d, op, ty, pos, after, guard⟩ (fun u w'' => Ext w' w'' ∧ V u w'') fun _ _ => False)
    (h' : Asy P c n ds S w0 l k Q rest ⟨env.del (some d), (d, V) :: sats, ph, false :: mu, pres⟩) : Asy P c n ds S w0 l k Q (⟨some d, op, ty, pos, after, guard⟩ :: rest) ⟨env, sats, ph, mu, pres⟩ :=
  .step (e := .sat V) ⟨hdst, hs, hw, hd, hV, fun w' ρ hx hg => h w' _ hx (hg.sat t U (List.mem_of_getElem? hi) (by simpa using hl)) ρ (ev_cons hg.ev rfl)⟩ h'
theorem Asy.sat2 (i j : Nat) {t s : Nat} {U U' : Pred} (V : Pred) (hi : sats[i]? = some (t, U)) (hl : (Oper.looksAt l.toArray ⟨some d, op, ty, pos, after, guard⟩).contains t = true)
    (hj : sats[j]? = some (s, U')) (hl' : (Oper.looksAt l.toArray ⟨some d, op, ty, pos, after, guard⟩).contains s = true)
    (hw : wantE l env ⟨some d, op, ty, pos, after, guard⟩ = some true) (hdst : Nat.blt d n = true) (hd : isDefer op = false) (hs : isSel op = false)
    (hV : ∀ v w' w'', ExtB S w0 w' → ExtB S w' w'' → V v w' → V v w'')
    (h : ∀ w' x y, ExtB S w0 w' → U x w' → U' y w' → OpE P ((t, x) :: (s, y) :: env) w' ⟨some d, op, ty, pos, after, guard⟩ (fun u w'' => Ext w' w'' ∧ V u w'') fun _ _ => False)
    (h' : Asy P c n ds S w0 l k Q rest ⟨env.del (some d), (d, V) :: sats, ph, false :: mu, pres⟩) : Asy P c n ds S w0 l k Q (⟨some d, op, ty, pos, after, guard⟩ :: rest) ⟨env, sats, ph, mu, pres⟩ :=
  .step (e := .sat V) ⟨hdst, hs, hw, hd, hV, fun w' ρ hx hg => h w' _ _ hx (hg.sat t U (List.mem_of_getElem? hi) (by simpa using hl)) (hg.sat s U' (List.mem_of_getElem? hj) (by simpa using hl')) ρ
    (ev_cons (ev_cons hg.ev rfl) rfl)⟩ h'
/-- Its value is known; it reads one value that is known by a law. -/
theorem Asy.val1 (i : Nat) {t : Nat} {U : Pred} {v : Value} (hi : sats[i]? = some (t, U)) (hl : (Oper.looksAt l.toArray ⟨some d, op, ty, pos, after, guard⟩).contains t = true)
    (hw : wantE l env ⟨some d, op, ty, pos, after, guard⟩ = some true) (hdst : Nat.blt d n = true) (hd : isDefer op = false) (hs : isSel op = false)
    (h : ∀ w' x, ExtB S w0 w' → U x w' → OpE P ((t, x) :: env) w' ⟨some d, op, ty, pos, after, guard⟩ (fun u w'' => u = v ∧ Ext w' w'') fun _ _ => False)
    (h' : Asy P c n ds S w0 l k Q rest ⟨(d, v) :: env, sats, ph, false :: mu, pres⟩) : Asy P c n ds S w0 l k Q (⟨some d, op, ty, pos, after, guard⟩ :: rest) ⟨env, sats, ph, mu, pres⟩ :=
  .step (e := .val v) ⟨hdst, hs, .inr ⟨hw, hd, fun w' ρ hx hg => h w' _ hx (hg.sat t U (List.mem_of_getElem? hi) (by simpa using hl)) ρ (ev_cons hg.ev rfl)⟩⟩ h'

/-- It writes; nothing has been written yet. -/
theorem Asy.wri0 (V : Pred) (hw : wantE l env ⟨some d, op, ty, pos, after, guard⟩ = some true) (hdst : Nat.blt d n = true) (hd : isDefer op = false) (hs : isSel op = false)
    (hV : ∀ v w' w'', ExtB S w0 w' → Ext w' w'' → V v w' → V v w'')
    (h : ∀ w', Ext w0 w' → OpE P env w' ⟨some d, op, ty, pos, after, guard⟩ (fun u w'' => ExtB S w' w'' ∧ V u w'') fun _ _ => False)
    (h' : Asy P c n ds S w0 l k Q rest ⟨env.del (some d), sats, some (some d, V), true :: mu, pres⟩) : Asy P c n ds S w0 l k Q (⟨some d, op, ty, pos, after, guard⟩ :: rest) ⟨env, sats, none, mu, pres⟩ :=
  .step (e := .wri V) ⟨hdst, hs, hw, hd, hV, fun w' ρ hx hg _ => h w' hx ρ hg.ev⟩ h'
theorem Asy.wri01 (i : Nat) {t : Nat} {U : Pred} (V : Pred) (hi : sats[i]? = some (t, U)) (hl : (Oper.looksAt l.toArray ⟨some d, op, ty, pos, after, guard⟩).contains t = true)
    (hw : wantE l env ⟨some d, op, ty, pos, after, guard⟩ = some true) (hdst : Nat.blt d n = true) (hd : isDefer op = false) (hs : isSel op = false)
    (hV : ∀ v w' w'', ExtB S w0 w' → Ext w' w'' → V v w' → V v w'')
    (h : ∀ w' x, Ext w0 w' → U x w' → OpE P ((t, x) :: env) w' ⟨some d, op, ty, pos, after, guard⟩ (fun u w'' => ExtB S w' w'' ∧ V u w'') fun _ _ => False)
    (h' : Asy P c n ds S w0 l k Q rest ⟨env.del (some d), sats, some (some d, V), true :: mu, pres⟩) : Asy P c n ds S w0 l k Q (⟨some d, op, ty, pos, after, guard⟩ :: rest) ⟨env, sats, none, mu, pres⟩ :=
  .step (e := .wri V) ⟨hdst, hs, hw, hd, hV, fun w' ρ hx hg _ => h w' _ hx (hg.sat t U (List.mem_of_getElem? hi) (by simpa using hl)) ρ (ev_cons hg.ev rfl)⟩ h'
/-- It writes, after another that wrote, and reads what that one gave. -/
theorem Asy.wri1 {t : Nat} {U : Pred} (V : Pred) (hl : (Oper.looksAt l.toArray ⟨some d, op, ty, pos, after, guard⟩).contains t = true)
    (hw : wantE l env ⟨some d, op, ty, pos, after, guard⟩ = some true) (hdst : Nat.blt d n = true) (hd : isDefer op = false) (hs : isSel op = false)
    (hV : ∀ v w' w'', ExtB S w0 w' → Ext w' w'' → V v w' → V v w'')
    (h : ∀ w' x, ExtB S w0 w' → U x w' → OpE P ((t, x) :: env) w' ⟨some d, op, ty, pos, after, guard⟩ (fun u w'' => ExtB S w' w'' ∧ V u w'') fun _ _ => False)
    (h' : Asy P c n ds S w0 l k Q rest ⟨env.del (some d), sats, some (some d, V), true :: mu, pres⟩) : Asy P c n ds S w0 l k Q (⟨some d, op, ty, pos, after, guard⟩ :: rest) ⟨env, sats, some (some t, U), mu, pres⟩ :=
  .step (e := .wri V) ⟨hdst, hs, hw, hd, hV, fun w' ρ ⟨hx, x, hU, hr⟩ hg _ => h w' x hx hU ρ (ev_cons hg.ev (hr t rfl (by simpa using hl)))⟩ h'
theorem Asy.wri11 (i : Nat) {t s : Nat} {U U' : Pred} (V : Pred) (hl : (Oper.looksAt l.toArray ⟨some d, op, ty, pos, after, guard⟩).contains t = true)
    (hi : sats[i]? = some (s, U')) (hl' : (Oper.looksAt l.toArray ⟨some d, op, ty, pos, after, guard⟩).contains s = true)
    (hw : wantE l env ⟨some d, op, ty, pos, after, guard⟩ = some true) (hdst : Nat.blt d n = true) (hd : isDefer op = false) (hs : isSel op = false)
    (hV : ∀ v w' w'', ExtB S w0 w' → Ext w' w'' → V v w' → V v w'')
    (h : ∀ w' x y, ExtB S w0 w' → U x w' → U' y w' → OpE P ((t, x) :: (s, y) :: env) w' ⟨some d, op, ty, pos, after, guard⟩ (fun u w'' => ExtB S w' w'' ∧ V u w'') fun _ _ => False)
    (h' : Asy P c n ds S w0 l k Q rest ⟨env.del (some d), sats, some (some d, V), true :: mu, pres⟩) : Asy P c n ds S w0 l k Q (⟨some d, op, ty, pos, after, guard⟩ :: rest) ⟨env, sats, some (some t, U), mu, pres⟩ :=
  .step (e := .wri V) ⟨hdst, hs, hw, hd, hV, fun w' ρ ⟨hx, x, hU, hr⟩ hg _ => h w' x _ hx hU (hg.sat s U' (List.mem_of_getElem? hi) (by simpa using hl')) ρ (ev_cons (ev_cons hg.ev rfl) (hr t rfl (by simpa using hl)))⟩ h'

/-- It is the first that writes, and reads one value that is known by a law that lasts till then. -/
theorem Asy.wriP (i : Nat) {t : Nat} {U : Pred} (V : Pred) (hi : pres[i]? = some (t, U)) (hl : (Oper.looksAt l.toArray ⟨some d, op, ty, pos, after, guard⟩).contains t = true)
    (hw : wantE l env ⟨some d, op, ty, pos, after, guard⟩ = some true) (hdst : Nat.blt d n = true) (hd : isDefer op = false) (hs : isSel op = false)
    (hV : ∀ v w' w'', ExtB S w0 w' → Ext w' w'' → V v w' → V v w'')
    (h : ∀ w' x, Ext w0 w' → U x w' → OpE P ((t, x) :: env) w' ⟨some d, op, ty, pos, after, guard⟩ (fun u w'' => ExtB S w' w'' ∧ V u w'') fun _ _ => False)
    (h' : Asy P c n ds S w0 l k Q rest ⟨env.del (some d), sats, some (some d, V), true :: mu, pres⟩) : Asy P c n ds S w0 l k Q (⟨some d, op, ty, pos, after, guard⟩ :: rest) ⟨env, sats, none, mu, pres⟩ :=
  .step (e := .wri V) ⟨hdst, hs, hw, hd, hV, fun w' ρ hx hg hp => h w' _ hx (hp rfl t U (List.mem_of_getElem? hi) (by simpa using hl)) ρ (ev_cons hg.ev rfl)⟩ h'
/-- Its value is known by a law that lasts till something is written. -/
theorem Asy.pre0 (V : Pred) (hw : wantE l env ⟨some d, op, ty, pos, after, guard⟩ = some true) (hdst : Nat.blt d n = true) (hd : isDefer op = false) (hs : isSel op = false)
    (hV : ∀ v w' w'', ExtB S w0 w' → Ext w' w'' → V v w' → V v w'')
    (h : ∀ w', ExtB S w0 w' → OpE P env w' ⟨some d, op, ty, pos, after, guard⟩ (fun u w'' => Ext w' w'' ∧ V u w'') fun _ _ => False)
    (h' : Asy P c n ds S w0 l k Q rest ⟨env.del (some d), sats, ph, false :: mu, (d, V) :: pres⟩) : Asy P c n ds S w0 l k Q (⟨some d, op, ty, pos, after, guard⟩ :: rest) ⟨env, sats, ph, mu, pres⟩ :=
  .step (e := .pre V) ⟨hdst, hs, hw, hd, hV, fun w' ρ hx hg => h w' hx ρ hg.ev⟩ h'

/-- The rest follows in the text's order. -/
def satsAll : List (Nat × Pred) → World → Env → (Env → Prop) → Prop
  | [], _, e, K => K e
  | (d, V) :: r, w, e, K => ∀ x, V x w → satsAll r w ((d, x) :: e) K
theorem satsAll_run {xs : Nat → Value} {w' : World} {K : Env → Prop} : ∀ (sats : List (Nat × Pred)) (e : Env), (∀ d V, (d, V) ∈ sats → V (xs d) w') → satsAll sats w' e K →
    K ((sats.map fun s => (s.1, xs s.1)).reverse ++ e)
  | [], e, _, h => h
  | (d, V) :: r, e, hs, h => by
    have := satsAll_run r ((d, xs d) :: e) (fun d' V' hm => hs d' V' (List.mem_cons_of_mem _ hm)) (h _ (hs d V List.mem_cons_self))
    simpa using this

theorem get_swap {A B : Env} {xs : Nat → Value} (hA : ∀ t v, (t, v) ∈ A → v = xs t) (t : Nat) (v : Value) (h : Env.get (A.reverse ++ B) t = some v) : Env.get (A ++ B) t = some v := by
  have app : ∀ (A B : Env) (t : Nat) (v : Value), (∀ t v, (t, v) ∈ A → v = xs t) → (Env.get (A ++ B) t = some v ↔ ((∃ u, (t, u) ∈ A) ∧ v = xs t) ∨ ((∀ u, (t, u) ∉ A) ∧ Env.get B t = some v)) := by
    intro A
    induction A with
    | nil => intro B t v _; simp
    | cons e r ih =>
      intro B t v hA
      obtain ⟨kk, u⟩ := e
      by_cases hk : kk = t
      · subst hk
        rw [List.cons_append, Env.get_cons_same]
        have hu := hA kk u List.mem_cons_self
        constructor
        · intro h; injection h with h; subst h; exact .inl ⟨⟨u, List.mem_cons_self⟩, hu⟩
        · rintro (⟨-, h⟩ | ⟨h, -⟩)
          · rw [h, hu]
          · exact absurd List.mem_cons_self (h u)
      · rw [List.cons_append, Env.get_cons_ne hk, ih B t v fun t v hm => hA t v (List.mem_cons_of_mem _ hm)]
        have hmem : ∀ u', (t, u') ∈ (kk, u) :: r ↔ (t, u') ∈ r := by
          intro u'
          rw [List.mem_cons]
          constructor
          · rintro (h | h)
            · injection h with h1 _; exact absurd h1.symm hk
            · exact h
          · exact .inr
        simp only [hmem]
  rw [app _ _ _ _ (fun t v hm => hA t v (by simpa using hm))] at h
  rw [app _ _ _ _ hA]
  simpa using h

theorem Asy.tail (hc : chk l mu.reverse l [] = true) (h : ∀ w', Ext w0 w' → satsAll sats w' env fun e => RunL P c n ds l.toArray rest k Q e w') :
    Asy P c n ds (fun _ => False) w0 l k Q rest ⟨env, sats, none, mu, pres⟩ :=
  ⟨[], hc, fun w' xs hx hs _ i hi a ha => satsAll_run (xs := xs) sats env hs (h w' hx) i hi a (ha.sub fun t v ht => get_swap (A := sats.map fun s => (s.1, xs s.1)) (xs := xs) (by
      intro t v hm
      obtain ⟨s, -, he⟩ := List.mem_map.1 hm
      injection he with h1 h2; subst h1; exact h2.symm) t v ht)⟩
theorem Asy.tailW {t : Nat} {U : Pred} (hc : chk l mu.reverse l [] = true) (h : ∀ w' x, ExtB S w0 w' → U x w' → satsAll sats w' ((t, x) :: env) fun e => RunL P c n ds l.toArray rest k Q e w') :
    Asy P c n ds S w0 l k Q rest ⟨env, sats, some (some t, U), mu, pres⟩ :=
  ⟨[], hc, fun w' xs hx hs hp i hi a ha => by
    obtain ⟨x, hU, hr⟩ := hp
    have hx' := hr t rfl
    subst hx'
    exact satsAll_run (xs := xs) sats _ hs (h w' _ hx hU) i hi a (ha.sub fun t' v ht => get_swap (A := sats.map fun s => (s.1, xs s.1)) (xs := xs) (by
      intro t v hm
      obtain ⟨s, -, he⟩ := List.mem_map.1 hm
      injection he with h1 h2; subst h1; exact h2.symm) t' v ht)⟩
end
end Go.Rn
