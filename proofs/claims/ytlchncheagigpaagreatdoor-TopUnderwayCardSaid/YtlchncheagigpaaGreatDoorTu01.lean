/- Parts of this project: Run. -/
import Derived.Orders
import Derived.Below
import Derived.KernelRfl
set_option maxHeartbeats 32000000
set_option linter.unusedSimpArgs false
set_option linter.unusedVariables false
set_option linter.unusedSectionVars false
section
set_option maxRecDepth 4000
namespace Go.Rn
open Go.RowKit

structure Ctx where
  fn : FuncId
  kind : CallKind
  round : Option Nat

def Ctx.fr (c : Ctx) (a : Act) (todo : List Item) : Frame :=
  { fn := c.fn, tmps := a.tmps, todo, defers := a.defers, mode := .run, kind := c.kind, roundOf := c.round }

theorem Ctx.fr_eval (c : Ctx) (a : Act) (todo : List Item) : (c.fr a todo).eval = a.eval := by
  funext x; cases x <;> rfl

inductive Out where
  | fall
  | ret
  | exit (id : Nat)
  | panic (chain : List PanicEntry)

def Fin (P : Program) (m : Machine) (c : Ctx) (cs : List Frame) : Out → Act → World → Prop
  | .fall, a, w => Steps P m (lone (c.fr a []) cs w)
  | .ret, a, w => ∃ k, Steps P m (lone (c.fr a (.code .ret :: k)) cs w)
  | .exit id, a, w => ∃ k, exitTo id k = none ∧ Steps P m (lone (c.fr a (.code (.exit id) :: k)) cs w)
  | .panic chain, a, w => ∃ todo, Steps P m (lone { c.fr a todo with mode := .panicking chain } cs w)

theorem Fin.of_steps {P : Program} {m m₁ : Machine} {c : Ctx} {cs : List Frame} {o : Out} {a : Act} {w : World}
    (h : Steps P m m₁) (h' : Fin P m₁ c cs o a w) : Fin P m c cs o a w := by
  cases o with
  | fall => exact h.trans h'
  | ret => obtain ⟨k, hs⟩ := h'; exact ⟨k, h.trans hs⟩
  | exit id => obtain ⟨k, hk, hs⟩ := h'; exact ⟨k, hk, h.trans hs⟩
  | panic chain => obtain ⟨k, hs⟩ := h'; exact ⟨k, h.trans hs⟩

def Run (P : Program) (c : Ctx) (todo : List Item) (Q : Out → Act → World → Prop) (a : Act) (w : World) : Prop :=
  ∀ cs, ∃ o a' w', Q o a' w' ∧ Fin P (lone (c.fr a todo) cs w) c cs o a' w'

variable {P : Program} {c : Ctx} {k : List Item} {Q : Out → Act → World → Prop} {a : Act} {w : World}

theorem Run.step {todo todo' : List Item} {a' : Act} {w' : World}
    (hs : ∀ cs, Steps P (lone (c.fr a todo) cs w) (lone (c.fr a' todo') cs w')) (h : Run P c todo' Q a' w') : Run P c todo Q a w :=
  fun cs => let ⟨o, a1, w1, q, f⟩ := h cs; ⟨o, a1, w1, q, f.of_steps (hs cs)⟩

theorem Run.seq {x y : Code} (h : Run P c (.code x :: .code y :: k) Q a w) : Run P c (.code (.seq x y) :: k) Q a w :=
  .step (fun _ => .one (step_lone_go (by simp [stepG, stepG.exec, Ctx.fr]))) h
theorem Run.skip (h : Run P c k Q a w) : Run P c (.code .skip :: k) Q a w :=
  .step (fun _ => .one (step_lone_go (by simp [stepG, stepG.exec, Ctx.fr]))) h
theorem Run.label {l : Nat} (h : Run P c k Q a w) : Run P c (.code (.label l) :: k) Q a w :=
  .step (fun _ => .one (step_lone_go (by simp [stepG, stepG.exec, Ctx.fr]))) h
theorem Run.inBlock {id : Nat} (h : Run P c k Q a w) : Run P c (.inBlock id :: k) Q a w :=
  .step (fun _ => .one (step_lone_go (by simp [stepG, stepG.exec, Ctx.fr]))) h
theorem Run.inScope {b : Code} (h : Run P c k Q a w) : Run P c (.inScope b :: k) Q a w :=
  .step (fun _ => .one (step_lone_go (by simp [stepG, stepG.exec, Ctx.fr]))) h
theorem Run.block {id : Nat} {b : Code} (h : Run P c (.code b :: .inBlock id :: k) Q a w) : Run P c (.code (.block id b) :: k) Q a w :=
  .step (fun _ => .one (step_lone_go (by simp [stepG, stepG.exec, Ctx.fr]))) h
theorem Run.scope {b : Code} (h : Run P c (.code b :: .inScope b :: k) Q a w) : Run P c (.code (.scope b) :: k) Q a w :=
  .step (fun _ => .one (step_lone_go (by simp [stepG, stepG.exec, Ctx.fr]))) h
theorem Run.loop {b : Code} (h : Run P c (.code b :: .inLoop b :: k) Q a w) : Run P c (.code (.loop b) :: k) Q a w :=
  .step (fun _ => .one (step_lone_go (by simp [stepG, stepG.exec, Ctx.fr]))) h
theorem Run.inLoop {b : Code} (h : Run P c (.code b :: .inLoop b :: k) Q a w) : Run P c (.inLoop b :: k) Q a w :=
  .step (fun _ => .one (step_lone_go (by simp [stepG, stepG.exec, Ctx.fr]))) h
theorem Run.exit {id : Nat} {k' : List Item} (hk : exitTo id k = some k') (h : Run P c k' Q a w) : Run P c (.code (.exit id) :: k) Q a w :=
  .step (fun _ => .one (step_lone_go (by simp [stepG, stepG.exec, Ctx.fr, hk]))) h
theorem Run.exitOut {id : Nat} (hk : exitTo id k = none) (h : Q (.exit id) a w) : Run P c (.code (.exit id) :: k) Q a w :=
  fun _ => ⟨.exit id, a, w, h, k, hk, Steps.refl _ _⟩
theorem Run.ret (h : Q .ret a w) : Run P c (.code .ret :: k) Q a w :=
  fun _ => ⟨.ret, a, w, h, k, Steps.refl _ _⟩
theorem Run.nil (h : Q .fall a w) : Run P c [] Q a w :=
  fun _ => ⟨.fall, a, w, h, Steps.refl _ _⟩
theorem Run.cond {x : Operand} {th el : Code} {t : Bool} (hx : a.eval x = .bool t) (h : Run P c (.code (if t then th else el) :: k) Q a w) :
    Run P c (.code (.cond x th el) :: k) Q a w :=
  .step (fun _ => .one (step_lone_go (by
    have := congrFun (c.fr_eval a (.code (.cond x th el) :: k)) x
    simp only [Ctx.fr] at this
    simp [stepG, stepG.exec, Ctx.fr, this, hx]))) h
theorem Run.region {id : Nat} {ops : Array Oper} (h : Run P c (.inRegion ops (List.range ops.size) :: k) Q a w) :
    Run P c (.code (.region id ops false) :: k) Q a w :=
  .step (fun _ => .one (step_lone_go (by simp [stepG, stepG.exec, Ctx.fr]))) h
theorem Run.regionDraw {id : Nat} {ops : Array Oper}
    (h : ∀ t, Run P c (.inRegion ops (Region.schedule (P.follows .mixedOrders) ops t) :: k) Q a { w with drawn := w.drawn + 1 }) :
    Run P c (.code (.region id ops true) :: k) Q a w :=
  .step (fun _ => .one (step_lone_go (by simp [stepG, stepG.exec, Ctx.fr, choose, Sem.run, Question.forced, Question.cut]))) (h (w.tape w.drawn (.order c.fn id)))
theorem Run.regionEnd {ops : Array Oper} (h : Run P c k Q a w) : Run P c (.inRegion ops [] :: k) Q a w :=
  .step (fun _ => .one (step_lone_go (by simp [stepG, stepG.exec, Ctx.fr]))) h

theorem Run.mono {todo : List Item} {Q' : Out → Act → World → Prop} (hq : ∀ o a w, Q o a w → Q' o a w) (h : Run P c todo Q a w) : Run P c todo Q' a w :=
  fun cs => let ⟨o, a1, w1, q, f⟩ := h cs; ⟨o, a1, w1, hq _ _ _ q, f⟩

end Go.Rn

namespace Go.Rn
open Go.RowKit

abbrev Env := List (Nat × Value)
def Env.get : Env → Nat → Option Value
  | [], _ => none
  | (k, v) :: r, t => bif Nat.beq k t then some v else Env.get r t

structure St (n : Nat) (ds : List Deferred) (env : Env) (a : Act) : Prop where
  size : a.tmps.size = n
  defers : a.defers = ds
  get : ∀ t v, env.get t = some v → a.tmps[t]? = some v

def evO (env : Env) : Operand → Option Value
  | .tmp t => env.get t
  | .const v => some v
  | .global g => some (.pointer (some ⟨g, 0, none⟩))
  | .func f => some (.func (.func f) #[] #[])

def evL (env : Env) : List Operand → Option (List Value)
  | [] => some []
  | x :: r => match evO env x with
    | some v => match evL env r with
      | some vs => some (v :: vs)
      | none => none
    | none => none

theorem St.ev {n : Nat} {ds : List Deferred} {env : Env} {a : Act} (h : St n ds env a) {x : Operand} {v : Value} (hx : evO env x = some v) : a.eval x = v := by
  cases x with
  | tmp t =>
    have := h.get t v hx
    simp [Act.eval, this]
  | const u => simpa [evO, Act.eval] using hx
  | global g => simpa [evO, Act.eval] using hx
  | func f => simpa [evO, Act.eval] using hx

theorem evL_map {env : Env} {ρ : Operand → Value} (hρ : ∀ x v, evO env x = some v → ρ x = v) :
    ∀ {l : List Operand} {vs : List Value}, evL env l = some vs → l.map ρ = vs
  | [], vs, h => by simp [evL] at h; simp [h]
  | x :: r, vs, h => by
    unfold evL at h
    split at h
    · rename_i v hv
      split at h
      · rename_i us hus
        simp at h; subst h
        simp [hρ x v hv, evL_map hρ hus]
      · simp at h
    · simp at h

theorem evL_mapA {env : Env} {ρ : Operand → Value} (hρ : ∀ x v, evO env x = some v → ρ x = v) {l : Array Operand} {vs : List Value}
    (h : evL env l.toList = some vs) : l.map ρ = vs.toArray := by
  have := evL_map hρ h
  apply Array.ext'
  simp [this]

theorem Env.get_cons_same (d : Nat) (v : Value) (env : Env) : Env.get ((d, v) :: env) d = some v := by simp [Env.get]
theorem Env.get_cons_ne {d t : Nat} (h : d ≠ t) (v : Value) (env : Env) : Env.get ((d, v) :: env) t = env.get t := by
  have : Nat.beq d t = false := by rw [Bool.eq_false_iff]; intro hh; exact h (Nat.eq_of_beq_eq_true hh)
  simp [Env.get, this]

theorem St.put {n : Nat} {ds : List Deferred} {env : Env} {a : Act} (h : St n ds env a) {d : Nat} (hd : d < n) (v : Value) :
    St n ds ((d, v) :: env) (a.put (some d) v) := by
  refine ⟨by simp [Act.put, h.size], h.defers, fun t u ht => ?_⟩
  by_cases e : d = t
  · subst e
    rw [Env.get_cons_same] at ht
    simp only [Act.put, Array.getElem?_setIfInBounds_self, h.size, hd, if_true]
    exact ht
  · rw [Env.get_cons_ne e] at ht
    simp [Act.put, Array.getElem?_setIfInBounds_ne e, h.get t u ht]

def Env.put (env : Env) : Option Nat → Value → Env
  | some d, v => (d, v) :: env
  | none, _ => env

theorem St.putO {n : Nat} {ds : List Deferred} {env : Env} {a : Act} (h : St n ds env a) {d : Option Nat} (hd : ∀ t, d = some t → t < n) (v : Value) :
    St n ds (env.put d v) (a.put d v) := by
  cases d with
  | none => exact h
  | some d => exact h.put (hd d rfl) v

inductive TD where
  | bool
  | int (k : IntKind)
  | str
  | ptr
  | slc (esz : Nat) (eagg : Bool) (e : TypeId)
  | arr (n : Nat) (esz : Nat) (eagg : Bool) (e : TypeId)
  | st (fs : List (Nat × Nat × Bool))
  | map (key elem : TypeId)
  | fn
  | iface
  | other

structure TI where
  td : TD
  size : Nat
  bytes : Nat
  zero : List Value
  agg : Bool
  u8 : Bool

def aggD : TypeDesc → Bool
  | .struct _ | .array _ _ => true
  | _ => false

def cellsAgg (P : Program) (t : TypeId) : Option (Nat × Bool) :=
  match P.info? t, P.underlying t with
  | some i, some d => some (i.size, aggD d)
  | _, _ => none

def fieldsOf (P : Program) : List Field → Option (List (Nat × Nat × Bool))
  | [] => some []
  | f :: r => match cellsAgg P f.type, fieldsOf P r with
    | some (n + 1, b), some l => some ((f.offset, n + 1, b) :: l)
    | _, _ => none

def TD.of (P : Program) (t : TypeId) : TD :=
  match P.underlying t with
  | some .bool => .bool
  | some (.int k) => .int k
  | some .string => .str
  | some (.pointer _) => .ptr
  | some (.slice e) => match cellsAgg P e with
    | some (n, b) => .slc n b e
    | none => .other
  | some (.array n e) => match cellsAgg P e with
    | some (m, b) => .arr n m b e
    | none => .other
  | some (.struct fs) => match fieldsOf P fs.toList with
    | some l => .st l
    | none => .other
  | some (.map k e) => .map k e
  | some (.func ..) => .fn
  | some (.interface _) => .iface
  | _ => .other

def isU8 (P : Program) (t : TypeId) : Bool := match P.underlying t with | some (.int .u8) => true | _ => false

def TI.of (P : Program) (t : TypeId) : Option TI :=
  match P.info? t, P.underlying t with
  | some i, some d => match i.zero with
    | some z => some { td := TD.of P t, size := i.size, bytes := i.bytes, zero := z.cells.toList, agg := aggD d, u8 := isU8 P t }
    | none => none
  | _, _ => none

abbrev Tab := List (Nat × TI)
def Tab.get : Tab → Nat → Option TI
  | [], _ => none
  | (k, v) :: r, t => bif Nat.beq k t then some v else Tab.get r t

def Tab.of (P : Program) : List Nat → Option Tab
  | [] => some []
  | t :: r => match TI.of P t, Tab.of P r with
    | some i, some l => some ((t, i) :: l)
    | _, _ => none

structure Tab.Ok (P : Program) (T : Tab) : Prop where
  get : ∀ t i, T.get t = some i → TI.of P t = some i

theorem Tab.of_ok {P : Program} : ∀ {ts : List Nat} {T : Tab}, Tab.of P ts = some T → ∀ t i, T.get t = some i → TI.of P t = some i
  | [], T, h, t, i, hg => by simp [Tab.of] at h; subst h; simp [Tab.get] at hg
  | s :: r, T, h, t, i, hg => by
    simp only [Tab.of] at h
    split at h
    · rename_i j l hj hl
      simp at h; subst h
      simp only [Tab.get] at hg
      cases hb : Nat.beq s t with
      | true =>
        have := Nat.eq_of_beq_eq_true hb
        subst this
        simp [] at hg; subst hg; exact hj
      | false =>
        rw [hb] at hg
        exact Tab.of_ok hl t i hg
    · simp at h

theorem Tab.ok_of {P : Program} {ts : List Nat} {T : Tab} (h : Tab.of P ts = some T) : Tab.Ok P T := ⟨Tab.of_ok h⟩

section
variable {P : Program} {t : TypeId} {i : TI} (h : TI.of P t = some i)
include h
theorem TI.inv : ∃ j d z, P.info? t = some j ∧ P.underlying t = some d ∧ j.zero = some z ∧ i.size = j.size ∧ i.bytes = j.bytes ∧ i.zero = z.cells.toList ∧ i.agg = aggD d ∧ i.td = TD.of P t ∧ i.u8 = isU8 P t := by
  unfold TI.of at h
  split at h
  · rename_i j d hj hd
    split at h
    · rename_i z hz
      simp at h; subst h
      exact ⟨j, d, z, hj, hd, hz, rfl, rfl, rfl, rfl, rfl, rfl⟩
    · simp at h
  · simp at h

theorem TI.info : ∃ j, P.info? t = some j ∧ j.size = i.size ∧ j.bytes = i.bytes := by
  obtain ⟨j, d, z, hj, hd, hz, h1, h2, _⟩ := TI.inv h; exact ⟨j, hj, h1.symm, h2.symm⟩

theorem TI.und : ∃ d, P.underlying t = some d ∧ aggD d = i.agg := by
  obtain ⟨j, d, z, hj, hd, hz, h1, h2, h3, h4, _⟩ := TI.inv h; exact ⟨d, hd, h4.symm⟩

theorem TI.tdof : i.td = TD.of P t := by
  obtain ⟨j, d, z, hj, hd, hz, h1, h2, h3, h4, h5, _⟩ := TI.inv h; exact h5
end

theorem TD.of_int {P : Program} {t : TypeId} {k : IntKind} (h : TD.of P t = .int k) : P.underlying t = some (.int k) := by
  unfold TD.of at h; split at h <;> first | (simp at h; done) | (split at h <;> simp at h; done) | (simp at h; simp_all)
theorem TD.of_bool {P : Program} {t : TypeId} (h : TD.of P t = .bool) : P.underlying t = some .bool := by
  unfold TD.of at h; split at h <;> first | (simp at h; done) | (split at h <;> simp at h; done) | simp_all
theorem TD.of_str {P : Program} {t : TypeId} (h : TD.of P t = .str) : P.underlying t = some .string := by
  unfold TD.of at h; split at h <;> first | (simp at h; done) | (split at h <;> simp at h; done) | simp_all
theorem TD.of_slc {P : Program} {t : TypeId} {n : Nat} {b : Bool} {e : TypeId} (h : TD.of P t = .slc n b e) : P.underlying t = some (.slice e) ∧ cellsAgg P e = some (n, b) := by
  unfold TD.of at h; split at h <;> first | (simp at h; done) | (split at h <;> simp at h; done) | (split at h <;> simp at h; simp_all)
theorem TD.of_arr {P : Program} {t : TypeId} {m n : Nat} {b : Bool} {e : TypeId} (h : TD.of P t = .arr m n b e) : P.underlying t = some (.array m e) ∧ cellsAgg P e = some (n, b) := by
  unfold TD.of at h; split at h <;> first | (simp at h; done) | (split at h <;> simp at h; done) | (split at h <;> simp at h; simp_all)
theorem TD.of_st {P : Program} {t : TypeId} {l : List (Nat × Nat × Bool)} (h : TD.of P t = .st l) : ∃ fs, P.underlying t = some (.struct fs) ∧ fieldsOf P fs.toList = some l := by
  unfold TD.of at h; split at h <;> first | (simp at h; done) | (split at h <;> simp at h; done) | (split at h <;> simp at h; exact ⟨_, by assumption, by simp_all⟩)
theorem fieldsOf_get {P : Program} : ∀ {fs : List Field} {l : List (Nat × Nat × Bool)} (_ : fieldsOf P fs = some l) (j : Nat) (off sz : Nat) (b : Bool), l[j]? = some (off, sz, b) →
    ∃ f, fs[j]? = some f ∧ f.offset = off ∧ cellsAgg P f.type = some (sz, b) ∧ sz ≠ 0
  | [], l, h, j, off, sz, b, hj => by simp [fieldsOf] at h; subst h; simp at hj
  | f :: r, l, h, j, off, sz, b, hj => by
    simp only [fieldsOf] at h
    split at h
    · rename_i n bb l' hc hl
      simp at h; subst h
      cases j with
      | zero => simp at hj; obtain ⟨rfl, rfl, rfl⟩ := hj; exact ⟨f, by simp, rfl, hc, by simp⟩
      | succ j => simp at hj; obtain ⟨g, hg, h1, h2, h3⟩ := fieldsOf_get hl j off sz b hj; exact ⟨g, by simpa using hg, h1, h2, h3⟩
    · simp at h

theorem cellsAgg_inv {P : Program} {t : TypeId} {n : Nat} {b : Bool} (h : cellsAgg P t = some (n, b)) : ∃ i d, P.info? t = some i ∧ i.size = n ∧ P.underlying t = some d ∧ aggD d = b := by
  unfold cellsAgg at h
  split at h
  · rename_i i d hi hd; simp at h; exact ⟨i, d, hi, h.1, hd, h.2⟩
  · simp at h

variable {P : Program} {w : World}
theorem run_bind {α β : Type} (s : Sem α) (f : α → Sem β) {v : α} {w' : World} (h : s.run P w = .ok v w') : (s >>= f).run P w = (f v).run P w' := by
  show (s.bind f).run P w = _
  induction s generalizing w with
  | pure a => simp [Sem.run] at h; obtain ⟨rfl, rfl⟩ := h; rfl
  | load m a k ih =>
    simp only [Sem.bind, Sem.run] at h ⊢
    split at h <;> (try split at h) <;> simp_all
  | store m a v k ih => 
    cases v <;> simp only [Sem.bind, Sem.run] at h ⊢ <;> (try (split at h <;> (try split at h) <;> simp_all)) <;> simp_all
  | new o k ih => simp only [Sem.bind, Sem.run] at h ⊢; exact ih _ h
  | shape r k ih => simp only [Sem.bind, Sem.run] at h ⊢; exact ih _ h
  | freeze a n k ih => simp only [Sem.bind, Sem.run] at h ⊢; exact ih h
  | frozen a k ih => simp only [Sem.bind, Sem.run] at h ⊢; exact ih _ h
  | getObj r k ih =>
    simp only [Sem.bind, Sem.run] at h ⊢
    split at h <;> simp_all
  | setObj r o k ih =>
    simp only [Sem.bind, Sem.run] at h ⊢
    split at h <;> simp_all
  | choose q k ih =>
    simp only [Sem.bind, Sem.run] at h ⊢
    split at h <;> simp_all
  | sys c k ih => simp only [Sem.bind, Sem.run] at h ⊢; exact ih _ h
  | program k ih => simp only [Sem.bind, Sem.run] at h ⊢; exact ih _ h
  | mark m k ih => simp only [Sem.bind, Sem.run] at h ⊢; exact ih h
  | halt h' => simp [Sem.run] at h

theorem run_underlying {t : TypeId} {d : TypeDesc} (h : P.underlying t = some d) : (underlying t).run P w = .ok d w := by
  simp [underlying, program, bind, Sem.bind, Sem.run, h, pure]
theorem run_typeInfo {t : TypeId} {i : TypeInfo} (h : P.info? t = some i) : (typeInfo t).run P w = .ok i w := by
  simp [typeInfo, program, bind, Sem.bind, Sem.run, h, pure]
theorem run_sizeOf {t : TypeId} {i : TypeInfo} (h : P.info? t = some i) : (sizeOf t).run P w = .ok i.size w := by
  unfold sizeOf; rw [run_bind _ _ (run_typeInfo h)]; rfl
theorem run_isAgg {t : TypeId} {d : TypeDesc} (h : P.underlying t = some d) : (isAgg t).run P w = .ok (aggD d) w := by
  unfold isAgg; rw [run_bind _ _ (run_underlying h)]; cases d <;> rfl

end Go.Rn

namespace Go.Rn
open Go.RowKit

def kN : IntKind → Nat
  | .i8 => 0 | .i16 => 1 | .i32 => 2 | .i64 => 3 | .u8 => 4 | .u16 => 5 | .u32 => 6 | .u64 => 7
theorem kN_inj {a b : IntKind} (h : Nat.beq (kN a) (kN b) = true) : a = b := by
  cases a <;> cases b <;> first | rfl | (simp [kN] at h)

def evInt (op : BinOp) (k : IntKind) (a b : Int) : Option Value :=
  match op with
  | .add => some (.int k (k.wrap (a + b)))
  | .sub => some (.int k (k.wrap (a - b)))
  | .mul => some (.int k (k.wrap (a * b)))
  | .quo => match b with
    | .ofNat (_ + 1) => some (.int k (k.wrap (a.tdiv b)))
    | _ => none
  | .rem => match b with
    | .ofNat (_ + 1) => some (.int k (a.tmod b))
    | _ => none
  | .and => some (.int k (k.wrap (BitVec.ofInt k.bits a &&& BitVec.ofInt k.bits b).toNat))
  | .or => some (.int k (k.wrap (BitVec.ofInt k.bits a ||| BitVec.ofInt k.bits b).toNat))
  | .xor => some (.int k (k.wrap (BitVec.ofInt k.bits a ^^^ BitVec.ofInt k.bits b).toNat))
  | .eql => some (.bool (a == b))
  | .neq => some (.bool (a != b))
  | .lss => some (.bool (decide (a < b)))
  | .leq => some (.bool (decide (a ≤ b)))
  | .gtr => some (.bool (decide (a > b)))
  | .geq => some (.bool (decide (a ≥ b)))
  | _ => none

def evBin (T : Tab) (op : BinOp) (t : TypeId) (x y : Value) : Option Value :=
  match x, y with
  | .int k a, .int k' b =>
    match op with
    | .shl => match b with
      | .ofNat n => some (.int k (k.wrap (a * 2 ^ (min n k.bits))))
      | _ => none
    | .shr => match b with
      | .ofNat n => some (.int k (a.fdiv (2 ^ (min n k.bits))))
      | _ => none
    | .andNot => none
    | op => bif Nat.beq (kN k) (kN k') then evInt op k a b else none
  | .bool a, .bool b =>
    match T.get t with
    | some { td := .bool, .. } => match op with
      | .eql => some (.bool (a == b))
      | .neq => some (.bool (!(a == b)))
      | _ => none
    | _ => none
  | .string a, .string b => match op with
    | .eql => some (.bool (a.toList == b.toList))
    | .neq => some (.bool (!(a.toList == b.toList)))
    | _ => none
  | _, _ => none

variable {P : Program} {w : World}

theorem run_intOp {op : BinOp} {k : IntKind} {a b : Int} {v : Value} (hs : op ≠ .shl) (hs' : op ≠ .shr) (h : evInt op k a b = some v) (t : TypeId) :
    (binOp op t (.int k a) (.int k b)).run P w = .ok v w := by
  cases op <;> simp only [evInt] at h <;> try (first | (exact absurd rfl hs) | (exact absurd rfl hs') | (simp at h; done))
  all_goals first
    | (simp at h; subst h; simp [binOp, Op.intArith, Op.intCmp, Op.intBits, pure]; done)
    | (split at h
       · rename_i n
         simp at h; subst h
         have : ¬ ((Int.ofNat (n + 1)) = 0) := by simp; omega
         simp [binOp, Op.intDiv, Sem.run, pure] <;> omega
       · simp at h)

theorem run_eqBool {t : TypeId} (ht : P.underlying t = some .bool) (a b : Bool) : (binOp .eql t (.bool a) (.bool b)).run P w = .ok (.bool (a == b)) w := by
  simp only [binOp]
  have : (Op.equal t (.bool a) (.bool b)).run P w = .ok (a == b) w := by
    unfold Op.equal; rw [show Op.maxDepth = 9999 + 1 from rfl, Op.equalIn, run_bind _ _ (run_underlying ht)]; rfl
  rw [run_bind _ _ this]; rfl
theorem run_neqBool {t : TypeId} (ht : P.underlying t = some .bool) (a b : Bool) : (binOp .neq t (.bool a) (.bool b)).run P w = .ok (.bool (!(a == b))) w := by
  simp only [binOp]
  have : (Op.equal t (.bool a) (.bool b)).run P w = .ok (a == b) w := by
    unfold Op.equal; rw [show Op.maxDepth = 9999 + 1 from rfl, Op.equalIn, run_bind _ _ (run_underlying ht)]; rfl
  rw [run_bind _ _ this]; rfl

theorem run_eqGuard_plain (op : BinOp) (t : TypeId) (x y : Operand) {a b : Value} (h1 : ∀ c, a ≠ .agg c) (h2 : a ≠ .nilIface) : (eqGuard op t x y a b).run P w = .ok () w := by
  unfold eqGuard
  cases op <;> first | rfl | (cases a <;> first | rfl | (exact absurd rfl h2) | (exact absurd rfl (h1 _)))

theorem evBin_ok {T : Tab} (hT : T.Ok P) {op : BinOp} {t : TypeId} {x y v : Value} (h : evBin T op t x y = some v) (ox oy : Operand) :
    (do eqGuard op t ox oy x y; binOp op t x y : Sem Value).run P w = .ok v w := by
  have hg : (eqGuard op t ox oy x y).run P w = .ok () w := by
    refine run_eqGuard_plain _ _ _ _ ?_ ?_
    · rintro c rfl; simp [evBin] at h
    · rintro rfl; simp [evBin] at h
  rw [run_bind _ _ hg]
  unfold evBin at h
  split at h
  · rename_i k a k' b
    split at h
    · split at h
      · rename_i n
        simp at h; subst h
        simp only [binOp, Op.shift]
        rw [if_neg (by simp)]
        simp [pure]
      · simp at h
    · split at h
      · rename_i n
        simp at h; subst h
        simp only [binOp, Op.shift]
        rw [if_neg (by simp)]
        simp [pure]
      · simp at h
    · simp at h
    · rename_i op' hs1 hs2 hs3
      cases hk : Nat.beq (kN k) (kN k') with
      | true =>
        rw [hk] at h
        obtain rfl := kN_inj hk
        exact run_intOp (by intro e; exact hs1 e) (by intro e; exact hs2 e) h t
      | false => rw [hk] at h; simp at h
  · rename_i a b
    split at h
    · rename_i ti size bytes zero agg u8 hti
      have hu := TD.of_bool ((TI.tdof (hT.get _ _ hti)).symm)
      split at h
      · simp at h; subst h; exact run_eqBool hu a b
      · simp at h; subst h; exact run_neqBool hu a b
      · simp at h
    · simp at h
  · rename_i a b
    split at h
    · simp at h; subst h; simp [binOp, Op.stringOp, pure]
    · simp at h; subst h; simp [binOp, Op.stringOp, pure]
    · simp at h
  · simp at h

def fieldVal (fs : List (Nat × Nat × Bool)) (f : Nat) (cs : List Value) : Option Value :=
  match fs[f]? with
  | some (off, sz, true) => some (.agg ((cs.drop off).take sz).toArray)
  | some (off, _, false) => cs[off]?
  | none => none

def force {α : Type} : List Value → (List Value → Option α) → Option α
  | [], f => f []
  | x :: r, f => force r fun l => f (x :: l)
theorem force_eq {α : Type} : ∀ (l : List Value) (f : List Value → Option α), force l f = f l
  | [], _ => rfl
  | x :: r, f => by simp [force, force_eq r]

def setAt (cs : List Value) (off : Nat) : List Value → List Value
  | [] => cs
  | v :: r => setAt (cs.set off v) (off + 1) r

def fillL (place : Nat → Option (Nat × Nat)) (cells : List Value) : List (Nat × Value) → Option (List Value)
  | [] => some cells
  | (i, v) :: rest =>
    match place i with
    | none => none
    | some (off, size) =>
      bif Nat.beq v.cells.toList.length size && Nat.ble (off + v.cells.toList.length) cells.length then fillL place (setAt cells off v.cells.toList) rest else none

def evParts (env : Env) : List (Nat × Operand) → Option (List (Nat × Value))
  | [] => some []
  | (i, x) :: r => match evO env x with
    | some v => match evParts env r with
      | some vs => some ((i, v) :: vs)
      | none => none
    | none => none

theorem evParts_map {env : Env} {ρ : Operand → Value} (hρ : ∀ x v, evO env x = some v → ρ x = v) :
    ∀ {l : List (Nat × Operand)} {vs : List (Nat × Value)}, evParts env l = some vs → l.map (fun (i, x) => (i, ρ x)) = vs
  | [], vs, h => by simp [evParts] at h; simp [h]
  | (i, x) :: r, vs, h => by
    simp only [evParts] at h
    split at h
    · rename_i v hv
      split at h
      · rename_i us hus
        simp at h; subst h
        simp [hρ x v hv, evParts_map hρ hus]
      · simp at h
    · simp at h

theorem setAt_eq : ∀ (vs : List Value) (cs : Array Value) (off k : Nat),
    ((vs.zipIdx k).foldl (fun cs (c, j) => cs.setIfInBounds (off + j) c) cs).toList = setAt cs.toList (off + k) vs
  | [], cs, off, k => rfl
  | v :: r, cs, off, k => by
    simp only [List.zipIdx_cons, List.foldl_cons, setAt]
    rw [setAt_eq r _ off (k + 1)]
    simp [Nat.add_assoc]

theorem fill_eq (place : Nat → Option (Nat × Nat)) : ∀ (ps : List (Nat × Value)) (cs : Array Value) (l : List Value), fillL place cs.toList ps = some l → Instr.fill place cs ps = some l.toArray
  | [], cs, l, h => by simp [fillL] at h; subst h; simp [Instr.fill]
  | (i, v) :: r, cs, l, h => by
    simp only [fillL] at h
    cases hp : place i with
    | none => simp [hp] at h
    | some os =>
      obtain ⟨off, size⟩ := os
      simp only [hp] at h
      cases hc : (Nat.beq v.cells.toList.length size && Nat.ble (off + v.cells.toList.length) cs.toList.length) with
      | false => rw [hc] at h; simp at h
      | true =>
        rw [hc] at h
        simp only [cond_true] at h
        simp only [Bool.and_eq_true] at hc
        have h1 := Nat.eq_of_beq_eq_true hc.1
        have h2 := Nat.le_of_ble_eq_true hc.2
        simp only [Array.length_toList] at h1 h2
        simp only [Instr.fill, hp]
        have hcond : (v.cells.size ≠ size || off + v.cells.size > cs.size) = false := by simp [h1]; omega
        have hcond' : (decide (v.cells.size ≠ size) || decide (off + v.cells.size > cs.size)) = false := by simpa using hcond
        rw [if_neg (by rw [hcond']; simp)]
        refine fill_eq place r _ l ?_
        rw [← Array.foldl_toList, Array.toList_zipIdx, setAt_eq]
        simpa using h

end Go.Rn

namespace Go.Rn
open Go.RowKit

def isIfaceD : TypeDesc → Bool
  | .interface _ => true
  | _ => false

def zerosL (z : List Value) : Nat → List Value
  | 0 => []
  | n + 1 => z ++ zerosL z n

def evCall (T : Tab) (env : Env) (b : Builtin) (args : List Operand) (ts : List TypeId) : Option Value :=
  match b with
  | .len => match args, ts with
    | [x], [t] => match T.get t, evO env x with
      | some { td := .slc .., .. }, some (.slice _ n _) => some (.int .i64 (n : Int))
      | some { td := .str, .. }, some (.string s) => some (.int .i64 (s.size : Int))
      | some { td := .arr n .., .. }, some _ => some (.int .i64 (n : Int))
      | _, _ => none
    | _, _ => none
  | .min => match args with
    | [x, y] => match evO env x, evO env y with
      | some (.int k a), some (.int _ b) => some (.int k (if b < a then b else a))
      | _, _ => none
    | _ => none
  | .max => match args with
    | [x, y] => match evO env x, evO env y with
      | some (.int k a), some (.int _ b) => some (.int k (if b > a then b else a))
      | _, _ => none
    | _ => none
  | _ => none

def evalOp (T : Tab) (env : Env) : Op → Option Value
  | .move x | .assign x => evO env x
  | .pick c a b => match evO env c with
    | some (.bool true) => evO env a
    | some (.bool false) => evO env b
    | _ => none
  | .binOp op t x y _ => match evO env x with
    | some a => match evO env y with
      | some b => evBin T op t a b
      | none => none
    | none => none
  | .unOp op _ x => match op, evO env x with
    | .not, some (.bool b) => some (.bool (!b))
    | .neg, some (.int k n) => some (.int k (k.wrap (-n)))
    | _, _ => none
  | .convert src dst x => match T.get src, T.get dst, evO env x with
    | some _, some { td := .int k, .. }, some (.int _ n) => some (.int k (k.wrap n))
    | some _, some { td := .str, .. }, some (.string s) => some (.string s)
    | _, _, _ => none
  | .makeInterface t x => match T.get t, evO env x with
    | some { td := .iface, .. }, _ => none
    | some { td := .other, .. }, _ => none
    | some _, some v => some (.iface t v)
    | _, _ => none
  | .makeFunc fn first captured => match evL env first.toList, evL env captured.toList with
    | some fs, some cs => some (.func fn fs.toArray cs.toArray)
    | _, _ => none
  | .nilCheck x => match evO env x with
    | some (.pointer (some a)) => some (.pointer (some a))
    | some (.func (.func f) fi ca) => some (.func (.func f) fi ca)
    | some (.func (.yield f) fi ca) => some (.func (.yield f) fi ca)
    | _ => none
  | .fieldAddr s x f => match T.get s, evO env x with
    | some { td := .st fs, .. }, some (.pointer (some ⟨b, o, none⟩)) => match fs[f]? with
      | some (off, _, _) => some (.pointer (some ⟨b, o + off, none⟩))
      | none => none
    | _, _ => none
  | .field t x f => match T.get t, evO env x with
    | some { td := .st fs, .. }, some (.agg cs) => force cs.toList (fieldVal fs f)
    | _, _ => none
  | .extract t ix => match evO env t with
    | some (.tuple vs) => vs.toList[ix]?
    | _ => none
  | .build t parts => match T.get t, evParts env parts.toList with
    | some { td := .st fs, zero := z, .. }, some ps => match fillL (fun i => (fs[i]?).map fun (o, s, _) => (o, s)) z ps with
      | some l => force l fun l => some (.agg l.toArray)
      | none => none
    | some { td := .arr _ sz _ _, zero := z, .. }, some ps => match fillL (fun i => some (i * sz, sz)) z ps with
      | some l => force l fun l => some (.agg l.toArray)
      | none => none
    | _, _ => none
  | .call c => match c.callee with
    | .builtin b => evCall T env b c.args.toList c.argTypes.toList
    | _ => none
  | _ => none

variable {P : Program} {w : World}

theorem run_fieldPlace {f : Field} {sz : Nat} {b : Bool} (hc : cellsAgg P f.type = some (sz, b)) (hs : sz ≠ 0) (bl o : Nat) :
    (fieldPlace ⟨bl, o, none⟩ f).run P w = .ok ⟨bl, o + f.offset, none⟩ w := by
  obtain ⟨i, d, hi, rfl, _, _⟩ := cellsAgg_inv hc
  unfold fieldPlace
  rw [run_bind _ _ (run_sizeOf hi), if_neg hs]
  simp only [Addr.add, pure, Sem.run]
  split <;> simp_all

theorem run_part {t : TypeId} {sz : Nat} {b : Bool} (hc : cellsAgg P t = some (sz, b)) (cs : Array Value) (off : Nat) {v : Value}
    (h : cond b (some (Value.agg ((cs.toList.drop off).take sz).toArray)) (cs.toList[off]?) = some v) : (part t cs off).run P w = .ok v w := by
  obtain ⟨i, d, hi, rfl, hd, rfl⟩ := cellsAgg_inv hc
  unfold part
  rw [run_bind _ _ (run_isAgg hd)]
  cases hb : aggD d with
  | true =>
    rw [hb] at h
    simp only [if_true]
    rw [run_bind _ _ (run_sizeOf hi)]
    simp at h; subst h
    simp only [pure, Sem.run]
    congr 2
    apply Array.ext'
    simp [List.extract_eq_take_drop]
  | false =>
    rw [hb] at h
    have h' : cs[off]? = some v := by simpa using h
    simp [h', pure]

theorem mapM_places {fs : List Field} : ∀ {l : List (Nat × Nat × Bool)}, fieldsOf P fs = some l →
    (fs.mapM (fun f => do pure (f.offset, ← sizeOf f.type) : Field → Sem (Nat × Nat))).run P w = .ok (l.map fun (o, s, _) => (o, s)) w := by
  induction fs with
  | nil => intro l h; simp [fieldsOf] at h; subst h; rfl
  | cons f r ih =>
    intro l h
    simp only [fieldsOf] at h
    split at h
    · rename_i n bb l' hc hl
      simp at h; subst h
      obtain ⟨i, d, hi, hsz, _, _⟩ := cellsAgg_inv hc
      rw [List.mapM_cons]
      have h1 : ((do pure (f.offset, ← sizeOf f.type) : Sem (Nat × Nat))).run P w = .ok (f.offset, n + 1) w := by
        rw [run_bind _ _ (run_sizeOf hi), hsz]; rfl
      rw [run_bind _ _ h1, run_bind _ _ (ih hl)]
      rfl
    · simp at h

theorem places_get (l : List (Nat × Nat × Bool)) : (fun i : Nat => (l.map fun x : Nat × Nat × Bool => match x with | (o, s, _) => (o, s)).toArray[i]?) = (fun i : Nat => (l[i]?).map fun x : Nat × Nat × Bool => match x with | (o, s, _) => (o, s)) := by
  funext i; simp

theorem evalOp_ok {T : Tab} (hT : T.Ok P) {env : Env} {ρ : Operand → Value} (hρ : ∀ x v, evO env x = some v → ρ x = v) {o : Oper} {v : Value}
    (h : evalOp T env o.op = some v) : (execOp ρ o).run P w = .ok (.value v) w := by
  obtain ⟨dst, op, type, pos, after, guard⟩ := o
  have lift : ∀ {s : Sem Value}, s.run P w = .ok v w → (do pure (Next.value (← s)) : Sem Next).run P w = .ok (.value v) w := by
    intro s hs; rw [run_bind _ _ hs]; rfl
  simp only at h
  unfold execOp
  cases op <;> simp only [evalOp] at h <;> try (simp at h; done)
  case move x => simp only [hρ x v h]; rfl
  case assign x => simp only [hρ x v h]; rfl
  case pick c a b =>
    split at h
    · rename_i hc; simp only [hρ _ _ hc, hρ _ _ h]; rfl
    · rename_i hc; simp only [hρ _ _ hc, hρ _ _ h]; rfl
    · simp at h
  case binOp op t x y yt =>
    split at h
    · rename_i a ha
      split at h
      · rename_i b hb
        simp only [hρ _ _ ha, hρ _ _ hb]
        exact lift (evBin_ok hT h x y)
      · simp at h
    · simp at h
  case unOp op t x =>
    split at h
    · rename_i b hb; simp at h; subst h; simp only [hρ _ _ hb]; rfl
    · rename_i k n hb; simp at h; subst h; simp only [hρ _ _ hb]; exact lift (by simp [Op.unary, Op.intArith, pure])
    · simp at h
  case convert src dst x =>
    split at h
    · rename_i is size bytes zero agg u8 k n hs hd hx
      simp at h; subst h
      simp only [hρ _ _ hx]
      refine lift ?_
      obtain ⟨ds, hds, _⟩ := TI.und (hT.get _ _ hs)
      have hdd := TD.of_int ((TI.tdof (hT.get _ _ hd)).symm)
      unfold convert
      rw [run_bind _ _ (run_underlying hds), run_bind _ _ (run_underlying hdd)]
      cases ds <;> rfl
    · rename_i is size bytes zero agg u8 s hs hd hx
      simp at h; subst h
      simp only [hρ _ _ hx]
      refine lift ?_
      obtain ⟨ds, hds, _⟩ := TI.und (hT.get _ _ hs)
      have hdd := TD.of_str ((TI.tdof (hT.get _ _ hd)).symm)
      unfold convert
      rw [run_bind _ _ (run_underlying hds), run_bind _ _ (run_underlying hdd)]
      cases ds <;> rfl
    · simp at h
  case makeInterface t x =>
    split at h
    · simp at h
    · simp at h
    · rename_i i u h1 h2 ht hx
      simp at h; subst h
      simp only [hρ _ _ hx]
      refine lift ?_
      obtain ⟨d, hd, _⟩ := TI.und (hT.get _ _ ht)
      unfold Instr.makeInterface
      rw [run_bind _ _ (run_underlying hd)]
      have htd := TI.tdof (hT.get _ _ ht)
      cases d <;> first | rfl | skip
      exfalso
      rename_i ms
      have : TD.of P t = .iface := by unfold TD.of; rw [hd]
      rw [this] at htd
      obtain ⟨td, size, bytes, zero, agg, u8⟩ := i
      simp at htd
      subst htd
      exact h1 size bytes zero agg u8 rfl
    · simp at h
  case makeFunc fn first captured =>
    split at h
    · rename_i fs cs hf hc
      simp at h; subst h
      simp only [evL_mapA hρ hf, evL_mapA hρ hc]
      rfl
    · simp at h
  case nilCheck x =>
    split at h <;> try (simp at h; done)
    all_goals (rename_i hx; simp at h; subst h; simp only [hρ _ _ hx]; rfl)
  case fieldAddr s x f =>
    split at h
    · rename_i fs size bytes zero agg u8 b o hs hx
      split at h
      · rename_i off sz bb hf
        simp at h; subst h
        simp only [hρ _ _ hx]
        refine lift ?_
        obtain ⟨fa, hfa, hfl⟩ := TD.of_st ((TI.tdof (hT.get _ _ hs)).symm)
        obtain ⟨g, hg, rfl, hc, hn⟩ := fieldsOf_get hfl f off sz bb hf
        unfold Instr.fieldAt
        rw [run_bind _ _ (run_underlying hfa)]
        have hg' : fa[f]? = some g := by simpa using hg
        simp only [hg']
        rw [run_bind _ _ (show (Instr.sureAddr (.pointer (some ⟨b, o, none⟩))).run P w = .ok ⟨b, o, none⟩ w from rfl), run_bind _ _ (run_fieldPlace hc hn b o)]
        rfl
      · simp at h
    · simp at h
  case field t x f =>
    split at h
    · rename_i fs size bytes zero agg u8 cs hs hx
      rw [force_eq] at h
      simp only [hρ _ _ hx]
      refine lift ?_
      obtain ⟨fa, hfa, hfl⟩ := TD.of_st ((TI.tdof (hT.get _ _ hs)).symm)
      unfold Instr.field
      rw [run_bind _ _ (run_underlying hfa)]
      unfold fieldVal at h
      split at h
      · rename_i off sz hf
        obtain ⟨g, hg, rfl, hc, hn⟩ := fieldsOf_get hfl f off sz true hf
        have hg' : fa[f]? = some g := by simpa using hg
        simp only [hg']
        rw [run_bind _ _ (show (asAgg (.agg cs)).run P w = .ok cs w from rfl)]
        exact run_part hc cs g.offset (by simpa using h)
      · rename_i off sz hf
        obtain ⟨g, hg, rfl, hc, hn⟩ := fieldsOf_get hfl f off sz false hf
        have hg' : fa[f]? = some g := by simpa using hg
        simp only [hg']
        rw [run_bind _ _ (show (asAgg (.agg cs)).run P w = .ok cs w from rfl)]
        exact run_part hc cs g.offset (by simpa using h)
      · simp at h
    · simp at h
  case extract t ix =>
    split at h
    · rename_i vs ht
      simp only [hρ _ _ ht]
      refine lift ?_
      have h' : vs[ix]? = some v := by simpa using h
      simp [Instr.extract, h', pure]
    · simp at h
  case build t parts =>
    have hm : ∀ {ps : List (Nat × Value)}, evParts env parts.toList = some ps → (parts.map fun (i, x) => (i, ρ x)).toList = ps := fun hp => by
      rw [Array.toList_map]; exact evParts_map hρ hp
    split at h
    · rename_i fs size bytes z agg u8 ps hs hp
      split at h
      · rename_i l hl
        rw [force_eq] at h
        simp at h; subst h
        refine lift ?_
        obtain ⟨fa, hfa, hfl⟩ := TD.of_st ((TI.tdof (hT.get _ _ hs)).symm)
        obtain ⟨j, d, zv, hj, hd, hz, h1, h2, h3, h4, h5, _⟩ := TI.inv (hT.get _ _ hs)
        simp only at h3
        unfold Instr.build
        have hzv : (zeroValue t).run P w = .ok zv w := by unfold zeroValue; rw [run_bind _ _ (run_typeInfo hj), hz]; rfl
        rw [run_bind _ _ hzv, run_bind _ _ (run_underlying hfa)]
        have hpl : (fa.mapM (fun f => do pure (f.offset, ← sizeOf f.type) : Field → Sem (Nat × Nat))).run P w = .ok (fs.map fun (o, s, _) => (o, s)).toArray w := by
          rw [Array.mapM_eq_mapM_toList, ← bind_pure_comp, run_bind _ _ (mapM_places hfl)]; rfl
        simp only
        rw [run_bind _ _ hpl, places_get, hm hp, fill_eq _ _ _ _ (by rw [← h3]; exact hl)]
        rfl
      · simp at h
    · rename_i n sz ea e size bytes z agg u8 ps hs hp
      split at h
      · rename_i l hl
        rw [force_eq] at h
        simp at h; subst h
        refine lift ?_
        obtain ⟨hu, hc⟩ := TD.of_arr ((TI.tdof (hT.get _ _ hs)).symm)
        obtain ⟨j, d, zv, hj, hd, hz, h1, h2, h3, h4, h5, _⟩ := TI.inv (hT.get _ _ hs)
        simp only at h3
        obtain ⟨ie, de, hie, hsz, _, _⟩ := cellsAgg_inv hc
        unfold Instr.build
        have hzv : (zeroValue t).run P w = .ok zv w := by unfold zeroValue; rw [run_bind _ _ (run_typeInfo hj), hz]; rfl
        rw [run_bind _ _ hzv, run_bind _ _ (run_underlying hu)]
        simp only
        rw [run_bind _ _ (run_sizeOf hie), hsz, hm hp, fill_eq _ _ _ _ (by rw [← h3]; exact hl)]
        rfl
      · simp at h
    · simp at h
  case call c =>
    obtain ⟨callee, args, argTypes⟩ := c
    simp only at h
    split at h
    · rename_i _ b
      have hres : (resolve ρ ⟨.builtin b, args, argTypes⟩ type).run P w = .ok { target := .builtin b argTypes type (args.map fun | .const _ => true | _ => false), args := args.map ρ } w := rfl
      rw [run_bind _ _ hres]
      simp only [invoke]
      unfold evCall at h
      split at h
      · split at h
        · rename_i x t hx ht
          have hax : args = #[x] := Array.ext' (by simpa using hx)
          have hat : argTypes = #[t] := Array.ext' (by simpa using ht)
          subst hax; subst hat
          simp only [builtin]
          split at h
          · rename_i es ea e size bytes zero agg u8 a n cap hti hxv
            simp at h; subst h
            refine lift ?_
            have hu := (TD.of_slc ((TI.tdof (hT.get _ _ hti)).symm)).1
            simp [Builtin.len_, hρ _ _ hxv, bind, Sem.bind, Sem.run, goInt, pure, underlying, program, hu]
          · rename_i size bytes zero agg u8 s hti hxv
            simp at h; subst h
            refine lift ?_
            have hu := (TD.of_str ((TI.tdof (hT.get _ _ hti)).symm))
            simp [Builtin.len_, hρ _ _ hxv, bind, Sem.bind, Sem.run, goInt, pure, underlying, program, hu]
          · rename_i n es ea e size bytes zero agg u8 xv hti hxv
            simp at h; subst h
            refine lift ?_
            have hu := (TD.of_arr ((TI.tdof (hT.get _ _ hti)).symm)).1
            simp [Builtin.len_, bind, Sem.bind, Sem.run, goInt, pure, underlying, program, hu]
          · simp at h
        · simp at h
      · split at h
        · rename_i x y hx
          have hax : args = #[x, y] := Array.ext' (by simpa using hx)
          subst hax
          simp only [builtin]
          split at h
          · rename_i k a k' b hxv hyv
            simp at h; subst h
            refine lift ?_
            simp [Builtin.min_, Builtin.min2, hρ _ _ hxv, hρ _ _ hyv, List.foldlM, bind, Sem.bind, pure]
          · simp at h
        · simp at h
      · split at h
        · rename_i x y hx
          have hax : args = #[x, y] := Array.ext' (by simpa using hx)
          subst hax
          simp only [builtin]
          split at h
          · rename_i k a k' b hxv hyv
            simp at h; subst h
            refine lift ?_
            simp [Builtin.max_, Builtin.max2, hρ _ _ hxv, hρ _ _ hyv, List.foldlM, bind, Sem.bind, pure]
          · simp at h
        · simp at h
      · simp at h
    · simp at h

end Go.Rn

namespace Go.Rn
open Go.RowKit

def Rounds (P : Program) (l : Nat) (f : FuncId) (tmps : Array Value) (assign body : Code) (w : World) (R : Value → World → Prop) (X : List PanicEntry → World → Prop) : Prop :=
  ∀ c cs, (∃ v w', R v w' ∧ Steps P (lone (Frame.round l f tmps assign body .normal) (c :: cs) w) (lone (c.finish v) cs w')) ∨
    (∃ ch w', X ch w' ∧ Steps P (lone (Frame.round l f tmps assign body .normal) (c :: cs) w) (lone (c.raise ch) cs w'))

def endP (R : Value → World → Prop) (X : List PanicEntry → World → Prop) : Ending → World → Prop
  | .returned v, w => R v w
  | .panicked ch, w => X ch w
  | .outgrown, _ => False

def Lands (P : Program) (R : Value → World → Prop) (X : List PanicEntry → World → Prop) : Next → World → Prop
  | .value v, w => R v w
  | .skip, w => R undef w
  | .enter f args, w => Calls P f args w (endP R X)
  | .round l f tmps assign body, w => Rounds P l f tmps assign body w R X
  | _, _ => False

def ExecE (P : Program) (s : Sem Next) (w : World) (R : Value → World → Prop) (X : List PanicEntry → World → Prop) : Prop :=
  match s.run P w with
  | .ok nx w' => Lands P R X nx w'
  | .halt (.panic v) w' => X [{ v, recovered := false }] w'
  | _ => False

theorem ExecE.of_value {P : Program} {s : Sem Next} {w w' : World} {v : Value} {R : Value → World → Prop} {X : List PanicEntry → World → Prop}
    (h : s.run P w = .ok (.value v) w') (hr : R v w') : ExecE P s w R X := by
  unfold ExecE; rw [h]; exact hr
theorem ExecE.of_skip {P : Program} {s : Sem Next} {w w' : World} {R : Value → World → Prop} {X : List PanicEntry → World → Prop}
    (h : s.run P w = .ok .skip w') (hr : R undef w') : ExecE P s w R X := by
  unfold ExecE; rw [h]; exact hr

theorem Rounds.mono {P : Program} {l : Nat} {f : FuncId} {tmps : Array Value} {assign body : Code} {w : World} {R R' : Value → World → Prop} {X X' : List PanicEntry → World → Prop}
    (hR : ∀ v w, R v w → R' v w) (hX : ∀ v w, X v w → X' v w) (h : Rounds P l f tmps assign body w R X) : Rounds P l f tmps assign body w R' X' := fun c cs => by
  rcases h c cs with ⟨v, w', r, s⟩ | ⟨v, w', r, s⟩
  · exact .inl ⟨v, w', hR _ _ r, s⟩
  · exact .inr ⟨v, w', hX _ _ r, s⟩

theorem endP.mono {R R' : Value → World → Prop} {X X' : List PanicEntry → World → Prop} (hR : ∀ v w, R v w → R' v w) (hX : ∀ v w, X v w → X' v w) :
    ∀ e w, endP R X e w → endP R' X' e w
  | .returned _, _, h => hR _ _ h
  | .panicked _, _, h => hX _ _ h
  | .outgrown, _, h => h

theorem Lands.mono {P : Program} {R R' : Value → World → Prop} {X X' : List PanicEntry → World → Prop} (hR : ∀ v w, R v w → R' v w) (hX : ∀ v w, X v w → X' v w) :
    ∀ {nx w}, Lands P R X nx w → Lands P R' X' nx w := by
  intro nx w h
  cases nx <;> simp only [Lands] at h ⊢ <;> first
    | exact hR _ _ h
    | exact h.mono (endP.mono hR hX)
    | exact h.mono hR hX

theorem ExecE.mono {P : Program} {s : Sem Next} {w : World} {R R' : Value → World → Prop} {X X' : List PanicEntry → World → Prop} (hR : ∀ v w, R v w → R' v w) (hX : ∀ v w, X v w → X' v w)
    (h : ExecE P s w R X) : ExecE P s w R' X' := by
  unfold ExecE at *
  split
  · rename_i nx w' hs; rw [hs] at h; exact Lands.mono hR hX h
  · rename_i v w' hs; rw [hs] at h; exact hX _ _ h
  · rename_i h1 h2
    split at h
    · rename_i nx w' hs; exact absurd hs (h1 nx w')
    · rename_i v w' hs; exact absurd hs (h2 v w')
    · exact h

def isDefer : Op → Bool
  | .defer _ => true
  | _ => false

variable {P : Program} {c : Ctx} {k : List Item} {Q : Out → Act → World → Prop} {a : Act} {w : World}

theorem Ctx.fr_finish (c : Ctx) (a : Act) (ops : Array Oper) (i : Nat) (rest : List Nat) (k : List Item) (v : Value) :
    (c.fr a (.inRegion ops (i :: rest) :: k)).finish v = c.fr (a.put ((ops[i]?).bind (·.dst)) v) (.inRegion ops rest :: k) := by
  cases h : (ops[i]?).bind (·.dst) <;> simp [Frame.finish, Ctx.fr, Act.put, h]

theorem stepG_oper {ops : Array Oper} {i : Nat} {rest : List Nat} {o : Oper} {cs : List Frame} (ho : ops[i]? = some o) (hw : Region.wanted o (yielded ops a.tmps) = true) (hd : isDefer o.op = false) :
    stepG P true { frame := c.fr a (.inRegion ops (i :: rest) :: k), callers := cs, status := .running, dying := none } w =
      stepG.apply P true (c.fr a (.inRegion ops (i :: rest) :: k)) cs none (execOp a.eval o) w := by
  have he := c.fr_eval a (.inRegion ops (i :: rest) :: k)
  simp only [Ctx.fr] at he
  have hn : ∀ l x, ¬ (c.round = some l ∧ o.op = .defer x) := by
    rintro l x ⟨_, h2⟩; rw [h2] at hd; simp [isDefer] at hd
  simp [stepG, stepG.exec, stepG.oper, Frame.oper?, Ctx.fr, ho, hw, he]
  split
  · rename_i l x h1 h2; exact absurd ⟨h1, h2⟩ (hn _ _)
  · rfl

theorem Run.op {ops : Array Oper} {i : Nat} {rest : List Nat} {o : Oper} (ho : ops[i]? = some o) (hw : Region.wanted o (yielded ops a.tmps) = true) (hd : isDefer o.op = false)
    (h : ExecE P (execOp a.eval o) w (fun v w' => Run P c (.inRegion ops rest :: k) Q (a.put o.dst v) w') (fun ch w' => Q (.panic ch) a w')) :
    Run P c (.inRegion ops (i :: rest) :: k) Q a w := by
  intro cs
  have hg := stepG_oper (P := P) (c := c) (k := k) (w := w) (rest := rest) (cs := cs) ho hw hd
  have hfin : ∀ v, (c.fr a (.inRegion ops (i :: rest) :: k)).finish v = c.fr (a.put o.dst v) (.inRegion ops rest :: k) := by
    intro v; rw [Ctx.fr_finish, ho]; rfl
  unfold ExecE at h
  split at h
  · rename_i nx w' hr
    cases nx <;> simp only [Lands] at h
    case value v =>
      obtain ⟨o', a1, w1, q, f⟩ := h cs
      refine ⟨o', a1, w1, q, Fin.of_steps (.one (step_lone_go ?_)) f⟩
      rw [hg, ← hfin]; simp [stepG.apply, hr]
    case skip =>
      obtain ⟨o', a1, w1, q, f⟩ := h cs
      refine ⟨o', a1, w1, q, Fin.of_steps (.one (step_lone_go ?_)) f⟩
      rw [hg, ← hfin]; simp [stepG.apply, hr]
    case enter f args =>
      obtain ⟨e, w2, fr, hR, hsteps, _, hleave⟩ := h (c.fr a (.inRegion ops (i :: rest) :: k) :: cs)
      have henter : _root_.Go.step P (lone (c.fr a (.inRegion ops (i :: rest) :: k)) cs w) =
          .next (lone (Frame.enter P f args .normal) (c.fr a (.inRegion ops (i :: rest) :: k) :: cs) w') :=
        step_lone_go (by rw [hg]; simp [stepG.apply, hr, Ctx.fr])
      cases e with
      | returned v =>
        obtain ⟨o', a1, w1, q, f'⟩ := hR cs
        refine ⟨o', a1, w1, q, Fin.of_steps (.head henter (Steps.trans hsteps (.one ?_))) f'⟩
        rw [← hfin]; exact step_leave_returned hleave
      | panicked chain =>
        refine ⟨.panic chain, a, w2, hR, .inRegion ops (i :: rest) :: k, .head henter (Steps.trans hsteps (.one ?_))⟩
        exact step_leave_panicked hleave
      | outgrown => exact hR.elim
    case round l f tmps assign body =>
      have henter : _root_.Go.step P (lone (c.fr a (.inRegion ops (i :: rest) :: k)) cs w) =
          .next (lone (Frame.round l f tmps assign body .normal) (c.fr a (.inRegion ops (i :: rest) :: k) :: cs) w') :=
        step_lone_go (by rw [hg]; simp [stepG.apply, hr, Ctx.fr])
      rcases h (c.fr a (.inRegion ops (i :: rest) :: k)) cs with ⟨v, w2, hR, hs⟩ | ⟨ch, w2, hX, hs⟩
      · obtain ⟨o', a1, w1, q, f'⟩ := hR cs
        refine ⟨o', a1, w1, q, Fin.of_steps (.head henter (Steps.trans hs ?_)) f'⟩
        rw [← hfin]; exact Steps.refl _ _
      · exact ⟨.panic ch, a, w2, hX, .inRegion ops (i :: rest) :: k, .head henter hs⟩
  · rename_i v w' hr
    refine ⟨_, a, w', h, .inRegion ops (i :: rest) :: k, .one (step_lone_go ?_)⟩
    rw [hg]; simp [stepG.apply, hr, Frame.raise, Ctx.fr]
  · exact h.elim

theorem Run.opSkip {ops : Array Oper} {i : Nat} {rest : List Nat} (hw : ((ops[i]?).map (Region.wanted · (yielded ops a.tmps))).getD false = false)
    (h : Run P c (.inRegion ops rest :: k) Q (a.put ((ops[i]?).bind (·.dst)) undef) w) : Run P c (.inRegion ops (i :: rest) :: k) Q a w :=
  .step (fun cs => .one (by
    rw [← Ctx.fr_finish]
    exact step_lone_go (by
      have h' := hw
      simp only [Ctx.fr] at *
      simp [stepG, stepG.exec, h']))) h

def RunE (P : Program) (c : Ctx) (n : Nat) (ds : List Deferred) (todo : List Item) (Q : Out → Act → World → Prop) (env : Env) (w : World) : Prop :=
  ∀ a, St n ds env a → Run P c todo Q a w

def RunL (P : Program) (c : Ctx) (n : Nat) (ds : List Deferred) (ops : Array Oper) (l : List Oper) (k : List Item) (Q : Out → Act → World → Prop) (env : Env) (w : World) : Prop :=
  ∀ i, ops.toList.drop i = l → RunE P c n ds (.inRegion ops (List.range' i l.length) :: k) Q env w

variable {n : Nat} {ds : List Deferred} {env : Env}

theorem RunE.seq {x y : Code} (h : RunE P c n ds (.code x :: .code y :: k) Q env w) : RunE P c n ds (.code (.seq x y) :: k) Q env w := fun a ha => .seq (h a ha)
theorem RunE.skip (h : RunE P c n ds k Q env w) : RunE P c n ds (.code .skip :: k) Q env w := fun a ha => .skip (h a ha)
theorem RunE.label {l : Nat} (h : RunE P c n ds k Q env w) : RunE P c n ds (.code (.label l) :: k) Q env w := fun a ha => .label (h a ha)
theorem RunE.inBlock {id : Nat} (h : RunE P c n ds k Q env w) : RunE P c n ds (.inBlock id :: k) Q env w := fun a ha => .inBlock (h a ha)
theorem RunE.inScope {b : Code} (h : RunE P c n ds k Q env w) : RunE P c n ds (.inScope b :: k) Q env w := fun a ha => .inScope (h a ha)
theorem RunE.block {id : Nat} {b : Code} (h : RunE P c n ds (.code b :: .inBlock id :: k) Q env w) : RunE P c n ds (.code (.block id b) :: k) Q env w := fun a ha => .block (h a ha)
theorem RunE.scope {b : Code} (h : RunE P c n ds (.code b :: .inScope b :: k) Q env w) : RunE P c n ds (.code (.scope b) :: k) Q env w := fun a ha => .scope (h a ha)
theorem RunE.exit {id : Nat} {k' : List Item} (hk : exitTo id k = some k') (h : RunE P c n ds k' Q env w) : RunE P c n ds (.code (.exit id) :: k) Q env w := fun a ha => .exit hk (h a ha)
theorem RunE.ret (h : ∀ a, St n ds env a → Q .ret a w) : RunE P c n ds (.code .ret :: k) Q env w := fun a ha => .ret (h a ha)
theorem RunE.nil (h : ∀ a, St n ds env a → Q .fall a w) : RunE P c n ds [] Q env w := fun a ha => .nil (h a ha)
theorem RunE.cond {x : Operand} {th el : Code} {b : Bool} (hx : evO env x = some (.bool b)) (ht : b = true → RunE P c n ds (.code th :: k) Q env w)
    (hf : b = false → RunE P c n ds (.code el :: k) Q env w) : RunE P c n ds (.code (.cond x th el) :: k) Q env w := fun a ha => by
  refine Run.cond (ha.ev hx) ?_
  cases b with
  | true => exact ht rfl a ha
  | false => exact hf rfl a ha
theorem RunE.condT {x : Operand} {th el : Code} {b : Bool} (hx : evO env x = some (.bool b)) (hb : b = true) (ht : RunE P c n ds (.code th :: k) Q env w) :
    RunE P c n ds (.code (.cond x th el) :: k) Q env w := .cond hx (fun _ => ht) (fun h => by rw [hb] at h; exact absurd h (by simp))
theorem RunE.condF {x : Operand} {th el : Code} {b : Bool} (hx : evO env x = some (.bool b)) (hb : b = false) (ht : RunE P c n ds (.code el :: k) Q env w) :
    RunE P c n ds (.code (.cond x th el) :: k) Q env w := .cond hx (fun h => by rw [hb] at h; exact absurd h (by simp)) (fun _ => ht)
theorem RunE.region {id : Nat} {l : List Oper} (h : RunL P c n ds l.toArray l k Q env w) : RunE P c n ds (.code (.region id l.toArray false) :: k) Q env w :=
  fun a ha => .region (by
    have := h 0 (by simp) a ha
    rw [List.range_eq_range', List.size_toArray]
    exact this)
theorem RunL.nil {ops : Array Oper} (h : RunE P c n ds k Q env w) : RunL P c n ds ops [] k Q env w := fun _ _ a ha => .regionEnd (h a ha)

def Sub (env' env : Env) : Prop := ∀ t v, env'.get t = some v → env.get t = some v
theorem Sub.refl (env : Env) : Sub env env := fun _ _ h => h
theorem Sub.nil (env : Env) : Sub [] env := fun _ _ h => by simp [Env.get] at h
theorem Sub.cons {env' env : Env} {t : Nat} {v : Value} (h : env.get t = some v) (hs : Sub env' env) : Sub ((t, v) :: env') env := fun s u hu => by
  by_cases e : t = s
  · subst e; rw [Env.get_cons_same] at hu; rw [h, hu]
  · rw [Env.get_cons_ne e] at hu; exact hs s u hu
theorem St.sub {env' : Env} (hs : Sub env' env) (h : St n ds env a) : St n ds env' a := ⟨h.size, h.defers, fun t v ht => h.get t v (hs t v ht)⟩
theorem RunE.weaken {env' : Env} {todo : List Item} (hs : Sub env' env) (h : RunE P c n ds todo Q env' w) : RunE P c n ds todo Q env w := fun a ha => h a (ha.sub hs)

theorem RunE.loop {ι : Type} {body : Code} (E : ι → Env) (I : ι → World → Prop) (μ : ι → Nat) (x0 : ι) (hs : Sub (E x0) env) (h0 : I x0 w)
    (h : ∀ x w, I x w → (∀ y w', μ y < μ x → I y w' → RunE P c n ds (.inLoop body :: k) Q (E y) w') → RunE P c n ds (.code body :: .inLoop body :: k) Q (E x) w) :
    RunE P c n ds (.code (.loop body) :: k) Q env w := by
  have key : ∀ m x w, μ x ≤ m → I x w → RunE P c n ds (.code body :: .inLoop body :: k) Q (E x) w := by
    intro m
    induction m with
    | zero => intro x w hx hI; exact h x w hI (fun y w' hy _ => by omega)
    | succ m ih => intro x w hx hI; exact h x w hI (fun y w' hy hI' a ha => .inLoop (ih y w' (by omega) hI' a ha))
  exact .weaken hs (fun a ha => .loop (key (μ x0) x0 w (Nat.le_refl _) h0 a ha))

def wantE (ops : List Oper) (env : Env) (o : Oper) : Option Bool :=
  match o.guard with
  | none => some true
  | some (j, b) => match (ops[j]?).bind (·.dst) with
    | some t => match env.get t with
      | some (.bool b') => some (match b with | true => b' | false => !b')
      | some (.tuple _) => some false
      | _ => none
    | none => none

theorem wantE_ok {ops : Array Oper} {o : Oper} {b : Bool} (ha : St n ds env a) (h : wantE ops.toList env o = some b) : Region.wanted o (yielded ops a.tmps) = b := by
  unfold wantE at h
  unfold Region.wanted
  split at h
  · rename_i hg; simp at h; subst h; simp [hg]
  · rename_i j b0 hg
    rw [hg]
    split at h
    · rename_i t ht
      split at h
      · rename_i b' hb'
        have hd : (ops[j]?).bind (·.dst) = some t := by simpa using ht
        have := ha.get _ _ hb'
        simp only [yielded, hd, Option.bind_some, this]
        simp at h; subst h
        cases b0 <;> cases b' <;> rfl
      · rename_i hb'
        have hd : (ops[j]?).bind (·.dst) = some t := by simpa using ht
        have := ha.get _ _ hb'
        simp only [yielded, hd, Option.bind_some, this]
        simp at h; subst h
        cases b0 <;> rfl
      · simp at h
    · simp at h

def dstOk (n : Nat) : Option Nat → Bool
  | none => true
  | some d => Nat.blt d n
theorem dstOk_lt {d : Option Nat} (h : dstOk n d = true) : ∀ t, d = some t → t < n := by
  intro t ht; subst ht; simpa [dstOk, Nat.blt_eq] using h

theorem drop_cons {α : Type} {l : List α} {i : Nat} {o : α} {rest : List α} (h : l.drop i = o :: rest) : l[i]? = some o ∧ l.drop (i + 1) = rest := by
  refine ⟨?_, ?_⟩
  · have := congrArg (·[0]?) h; simpa using this
  · have := congrArg (·.drop 1) h; simpa [List.drop_drop, Nat.add_comm] using this

theorem RunL.exec {ops : Array Oper} {o : Oper} {rest : List Oper} (hw : wantE ops.toList env o = some true) (hd : isDefer o.op = false) (hdst : dstOk n o.dst = true)
    (h : ∀ ρ : Operand → Value, (∀ x v, evO env x = some v → ρ x = v) →
      ExecE P (execOp ρ o) w (fun v w' => RunL P c n ds ops rest k Q (env.put o.dst v) w') (fun ch w' => ∀ a, a.defers = ds → Q (.panic ch) a w')) :
    RunL P c n ds ops (o :: rest) k Q env w := fun i hi a ha => by
  obtain ⟨h1, h2⟩ := drop_cons hi
  rw [List.length_cons, List.range'_succ]
  refine Run.op (by simpa using h1) (wantE_ok ha hw) hd ?_
  refine (h a.eval (fun x v hx => ha.ev hx)).mono (fun v w' hr => ?_) (fun ch w' hq => hq a ha.defers)
  exact hr (i + 1) h2 _ (ha.putO (dstOk_lt hdst) v)

theorem RunL.unwanted {ops : Array Oper} {o : Oper} {rest : List Oper} (hw : wantE ops.toList env o = some false) (hdst : dstOk n o.dst = true)
    (h : RunL P c n ds ops rest k Q (env.put o.dst undef) w) : RunL P c n ds ops (o :: rest) k Q env w := fun i hi a ha => by
  obtain ⟨h1, h2⟩ := drop_cons hi
  have ho : ops[i]? = some o := by simpa using h1
  rw [List.length_cons, List.range'_succ]
  refine Run.opSkip (by simp [ho, wantE_ok ha hw]) ?_
  rw [ho]
  exact h (i + 1) h2 _ (ha.putO (dstOk_lt hdst) undef)

theorem evalOp_notDefer {T : Tab} {op : Op} {v : Value} (h : evalOp T env op = some v) : isDefer op = false := by
  cases op <;> first | rfl | (simp [evalOp] at h)

theorem RunL.pure {T : Tab} (hT : T.Ok P) {ops : Array Oper} {d : Tmp} {op : Op} {ty : TypeId} {pos : String} {after : Array Edge} {guard : Option (Nat × Bool)} {rest : List Oper} {v : Value}
    (hw : wantE ops.toList env ⟨some d, op, ty, pos, after, guard⟩ = some true) (hdst : Nat.blt d n = true) (hv : evalOp T env op = some v)
    (h : RunL P c n ds ops rest k Q ((d, v) :: env) w) : RunL P c n ds ops (⟨some d, op, ty, pos, after, guard⟩ :: rest) k Q env w :=
  .exec hw (evalOp_notDefer hv) hdst fun _ hρ => .of_value (evalOp_ok hT hρ hv) h

theorem RunL.unwantedD {ops : Array Oper} {d : Tmp} {op : Op} {ty : TypeId} {pos : String} {after : Array Edge} {guard : Option (Nat × Bool)} {rest : List Oper}
    (hw : wantE ops.toList env ⟨some d, op, ty, pos, after, guard⟩ = some false) (hdst : Nat.blt d n = true)
    (h : RunL P c n ds ops rest k Q ((d, undef) :: env) w) : RunL P c n ds ops (⟨some d, op, ty, pos, after, guard⟩ :: rest) k Q env w := .unwanted hw hdst h
theorem RunL.unwantedN {ops : Array Oper} {op : Op} {ty : TypeId} {pos : String} {after : Array Edge} {guard : Option (Nat × Bool)} {rest : List Oper}
    (hw : wantE ops.toList env ⟨none, op, ty, pos, after, guard⟩ = some false)
    (h : RunL P c n ds ops rest k Q env w) : RunL P c n ds ops (⟨none, op, ty, pos, after, guard⟩ :: rest) k Q env w := .unwanted hw rfl h

theorem wr_i64 {m : Int} (h1 : -9223372036854775808 ≤ m) (h2 : m < 9223372036854775808) : IntKind.i64.wrap m = m := by
  have e : (2 : Int) ^ 64 = 18446744073709551616 := rfl
  have e' : (2 : Int) ^ (64 - 1) = 9223372036854775808 := rfl
  simp only [IntKind.wrap, IntKind.bits, IntKind.signed, e, e']
  split <;> rename_i hh <;> simp at hh <;> omega
theorem wr_u64 {m : Int} (h1 : 0 ≤ m) (h2 : m < 18446744073709551616) : IntKind.u64.wrap m = m := by
  have e : (2 : Int) ^ 64 = 18446744073709551616 := rfl
  simp only [IntKind.wrap, IntKind.bits, IntKind.signed, e]
  simp; omega
theorem wq_i64 {m b : Int} (h1 : 0 ≤ m) (h2 : m < 9223372036854775808) (hb : 1 ≤ b) : IntKind.i64.wrap (m.tdiv b) = m / b := by
  rw [Int.tdiv_eq_ediv_of_nonneg h1]
  have := Int.ediv_nonneg h1 (by omega : 0 ≤ b)
  have := Int.ediv_le_self b h1
  exact wr_i64 (by omega) (by omega)
theorem wm_i64 {m b : Int} (h1 : 0 ≤ m) : m.tmod b = m % b := Int.tmod_eq_emod_of_nonneg h1

end Go.Rn

namespace Go.Rn
open Go.RowKit

theorem ask_drawn {α : Type} : ∀ (x : Ask α) (w : World), w.drawn ≤ (w.ask x).2.drawn
  | .done a, w => Nat.le_refl _
  | .ask what range k, w => by
    simp only [World.ask]
    split
    · exact ask_drawn (k 0) w
    · exact Nat.le_trans (Nat.le_succ _) (ask_drawn (k _) { w with drawn := w.drawn + 1 })
theorem sys_drawn (w : World) (c : Sys) : w.drawn ≤ (w.sys c).2.drawn := by
  unfold World.sys
  have h := ask_drawn (Kernel.perform c w.os) w
  generalize w.ask (Kernel.perform c w.os) = r at h
  obtain ⟨⟨r, os⟩, w'⟩ := r
  cases r <;> first | exact Nat.le_refl _ | exact h
theorem viewStore_drawn {p : Program} {w : World} {a : Addr} {u : TypeId} {k : Addr} {v : Value} {at_ : Bool} {w' : World} {l : List Addr} (h : w.viewStore p a u k v at_ = .ok (w', l)) : w'.drawn = w.drawn := by
  unfold World.viewStore at h
  simp only [bind, Except.bind, pure, Except.pure] at h
  repeat' (first | (simp only [Except.ok.injEq, Prod.mk.injEq] at h; obtain ⟨rfl, -⟩ := h; rfl) | (simp at h; done) | (cases h; done) | split at h)
theorem run_drawn {α : Type} {P : Program} (s : Sem α) : ∀ {w w' : World} {a : α}, s.run P w = .ok a w' → w.drawn ≤ w'.drawn := by
  induction s with
  | pure x => intro w w' a h; simp [Sem.run] at h; obtain ⟨-, rfl⟩ := h; exact Nat.le_refl _
  | load m a k ih =>
    intro w w' x h
    simp only [Sem.run] at h
    split at h
    · exact (have h2 := ih _ h; h2)
    · split at h
      · exact (have h2 := ih _ h; h2)
      · simp at h
  | store m a v k ih =>
    intro w w' x h
    cases v <;> simp only [Sem.run] at h <;> (try (simp at h; done)) <;> (
      split at h
      · split at h
        · simp at h
        · exact (have h2 := ih h; h2)
      · split at h
        · rename_i w1 l hf
          have h2 := ih h
          refine Nat.le_trans (Nat.le_of_eq ?_) h2
          unfold World.farStore at hf
          split at hf
          · split at hf
            · rename_i r hr
              obtain ⟨r1, r2⟩ := r
              simp only [Except.ok.injEq, Prod.mk.injEq] at hf
              obtain ⟨rfl, rfl⟩ := hf
              exact (viewStore_drawn hr).symm
            · simp at hf
          · simp at hf
        · simp at h)
  | new o k ih => intro w w' x h; simp only [Sem.run] at h; exact (have h2 := ih _ h; h2)
  | shape r k ih => intro w w' x h; simp only [Sem.run] at h; exact (have h2 := ih _ h; h2)
  | freeze a n k ih =>
    intro w w' x h; simp only [Sem.run] at h
    have h2 := ih h
    refine Nat.le_trans (Nat.le_of_eq ?_) h2
    unfold World.freeze; split <;> rfl
  | frozen a k ih => intro w w' x h; simp only [Sem.run] at h; exact (have h2 := ih _ h; h2)
  | getObj r k ih =>
    intro w w' x h; simp only [Sem.run] at h
    split at h
    · simp at h
    · exact (have h2 := ih _ h; h2)
    · simp at h
  | setObj r o k ih =>
    intro w w' x h; simp only [Sem.run] at h
    split at h
    · simp at h
    · exact (have h2 := ih h; h2)
    · simp at h
  | choose q k ih =>
    intro w w' x h; simp only [Sem.run] at h
    split at h
    · exact (have h2 := ih _ h; h2)
    · exact (have h2 := ih _ h; Nat.le_trans (Nat.le_succ _) h2)
  | sys c k ih => intro w w' x h; simp only [Sem.run] at h; exact (have h2 := ih _ h; Nat.le_trans (sys_drawn w c) h2)
  | program k ih => intro w w' x h; simp only [Sem.run] at h; exact (have h2 := ih _ h; h2)
  | mark m k ih => intro w w' x h; simp only [Sem.run] at h; exact (have h2 := ih h; h2)
  | halt h' => intro w w' x h; simp [Sem.run] at h

structure ExtB (S : Nat → Prop) (w w' : World) : Prop where
  drawn : w.drawn ≤ w'.drawn
  os : w'.os = w.os
  tape : w'.tape = w.tape
  output : w'.output = w.output
  size : w.heap.size ≤ w'.heap.size
  block : ∀ k, k < w.heap.size → ¬ S k → w'.heap[k]? = w.heap[k]?

abbrev Ext (w w' : World) : Prop := ExtB (fun _ => False) w w'

theorem ExtB.refl (S : Nat → Prop) (w : World) : ExtB S w w := ⟨Nat.le_refl _, rfl, rfl, rfl, Nat.le_refl _, fun _ _ _ => rfl⟩
theorem ExtB.trans {S : Nat → Prop} {a b c : World} (h : ExtB S a b) (k : ExtB S b c) : ExtB S a c :=
  ⟨Nat.le_trans h.drawn k.drawn, k.os.trans h.os, k.tape.trans h.tape, k.output.trans h.output, Nat.le_trans h.size k.size, fun i hi hs => (k.block i (Nat.lt_of_lt_of_le hi h.size) hs).trans (h.block i hi hs)⟩
theorem ExtB.mono {S S' : Nat → Prop} {a b : World} (h : ExtB S a b) (hs : ∀ k, k < a.heap.size → S k → S' k) : ExtB S' a b :=
  ⟨h.drawn, h.os, h.tape, h.output, h.size, fun k hk hn => h.block k hk fun hh => hn (hs k hk hh)⟩
theorem ExtB.of_ext {S : Nat → Prop} {a b : World} (h : Ext a b) : ExtB S a b := h.mono fun _ _ h => h.elim
theorem ExtB.write {S S' : Nat → Prop} {a b c : World} (h : ExtB S a b) (k : ExtB S' b c) (hs : ∀ i, S' i → i < a.heap.size → S i) : ExtB S a c :=
  ⟨Nat.le_trans h.drawn k.drawn, k.os.trans h.os, k.tape.trans h.tape, k.output.trans h.output, Nat.le_trans h.size k.size,
    fun i hi hn => (k.block i (Nat.lt_of_lt_of_le hi h.size) fun hh => hn (hs i hh hi)).trans (h.block i hi hn)⟩
theorem ExtB.below {a b : World} (h : Ext a b) : Below a.heap.size a b := ⟨h.os, h.tape, h.output, h.size, fun k hk => h.block k hk id⟩
theorem ExtB.draw {S : Nat → Prop} {a b : World} (h : ExtB S a b) (d : Nat) (hd : b.drawn ≤ d) : ExtB S a { b with drawn := d } := ⟨Nat.le_trans h.drawn hd, h.os, h.tape, h.output, h.size, h.block⟩

structure Added (w w' : World) (B : Nat) (o : Obj) : Prop where
  eq : B = w.heap.size
  size : w'.heap.size = B + 1
  ext : Ext w w'
  at_ : w'.heap[B]? = some o

structure Turned (w w' : World) (B : Nat) (o : Obj) : Prop where
  size : w'.heap.size = w.heap.size
  ext : ExtB (· = B) w w'
  at_ : w'.heap[B]? = some o

theorem added_push (w : World) (o : Obj) : Added w { w with heap := w.heap.push o } w.heap.size o :=
  ⟨rfl, by simp, ⟨Nat.le_refl _, rfl, rfl, rfl, by simp, fun k hk _ => by simp [Array.getElem?_push, Nat.ne_of_lt hk]⟩, by simp⟩

theorem turned_set (w : World) {B : Nat} (hB : B < w.heap.size) (o : Obj) : Turned w { w with heap := w.heap.setIfInBounds B o } B o :=
  ⟨by simp, ⟨Nat.le_refl _, rfl, rfl, rfl, by simp, fun k _ hn => by simp [Array.getElem?_setIfInBounds_ne (fun e => hn e.symm)]⟩, by simp [hB]⟩

def Row (w : World) (b o : Nat) (cs : List Value) : Prop := ∀ i v, cs[i]? = some v → w.cell? ⟨b, o + i, none⟩ = some v
def Blk (w : World) (b : Nat) (cs : List Value) (t : TypeId) : Prop := w.heap[b]? = some (.cells cs.toArray t (0, 0))

theorem lt_of_get {w : World} {b : Nat} {o : Obj} (h : w.heap[b]? = some o) : b < w.heap.size := by
  rcases Nat.lt_or_ge b w.heap.size with h' | h'
  · exact h'
  · rw [Array.getElem?_eq_none h'] at h; simp at h
theorem Blk.lt {w : World} {b : Nat} {cs : List Value} {t : TypeId} (h : Blk w b cs t) : b < w.heap.size := lt_of_get h
theorem Blk.ext {S : Nat → Prop} {w w' : World} {b : Nat} {cs : List Value} {t : TypeId} (h : Blk w b cs t) (e : ExtB S w w') (hn : ¬ S b) : Blk w' b cs t := by
  unfold Blk; rw [e.block b h.lt hn]; exact h
theorem Blk.cell {w : World} {b : Nat} {cs : List Value} {t : TypeId} (h : Blk w b cs t) {i : Nat} {v : Value} (hv : cs[i]? = some v) : w.cell? ⟨b, i, none⟩ = some v := by
  unfold World.cell?; rw [h]; simpa using hv
theorem Blk.row {w : World} {b : Nat} {cs : List Value} {t : TypeId} (h : Blk w b cs t) : Row w b 0 cs := fun i v hv => by rw [Nat.zero_add]; exact h.cell hv
theorem cell_lt {w : World} {b o : Nat} {v : Value} (h : w.cell? ⟨b, o, none⟩ = some v) : b < w.heap.size := by
  unfold World.cell? at h
  split at h
  · rename_i hh; exact lt_of_get hh
  · simp at h
theorem cell_ext {S : Nat → Prop} {w w' : World} {b o : Nat} {v : Value} (h : w.cell? ⟨b, o, none⟩ = some v) (e : ExtB S w w') (hn : ¬ S b) : w'.cell? ⟨b, o, none⟩ = some v := by
  rw [← h]; exact World.cell?_of_block (w := w) (e.block b (cell_lt h) hn)
theorem Row.ext {S : Nat → Prop} {w w' : World} {b o : Nat} {cs : List Value} (h : Row w b o cs) (e : ExtB S w w') (hn : ¬ S b) : Row w' b o cs := fun i v hv => cell_ext (h i v hv) e hn
theorem Row.extE {w w' : World} {b o : Nat} {cs : List Value} (h : Row w b o cs) (e : Ext w w') : Row w' b o cs := h.ext e id

variable {P : Program} {w : World}
def Loads (P : Program) (w : World) (t : TypeId) (b o : Nat) (v : Value) : Prop := (loadVar t ⟨b, o, none⟩).run P w = .ok v w

theorem add_none (b o i : Nat) : (⟨b, o, none⟩ : Addr).add i = ⟨b, o + i, none⟩ := by
  unfold Addr.add; split <;> simp_all

theorem run_load {b o : Nat} {v : Value} (h : w.cell? ⟨b, o, none⟩ = some v) : (load ⟨b, o, none⟩).run P w = .ok v w := by
  simp [load, Sem.run, h]

theorem run_loadCellsFrom {b o : Nat} : ∀ (n i : Nat) (cs : List Value) (acc : Array Value), cs.length = n → Row w b (o + i) cs →
    (loadCellsFrom ⟨b, o, none⟩ i n acc).run P w = .ok (acc ++ cs.toArray) w
  | 0, i, cs, acc, hl, _ => by
    obtain rfl := List.length_eq_zero_iff.1 hl
    simp [loadCellsFrom, pure]
  | n + 1, i, [], acc, hl, _ => by simp at hl
  | n + 1, i, c :: cs, acc, hl, hr => by
    unfold loadCellsFrom
    rw [add_none, run_bind _ _ (run_load (by simpa using hr 0 c rfl)), run_loadCellsFrom n (i + 1) cs (acc.push c) (by simpa using hl)
      (fun j v hv => by have := hr (j + 1) v (by simpa using hv); rw [show o + (i + 1) + j = o + i + (j + 1) by omega]; exact this)]
    simp

theorem run_loadCells {b o : Nat} {cs : List Value} (hr : Row w b o cs) : (loadCells ⟨b, o, none⟩ cs.length).run P w = .ok cs.toArray w := by
  unfold loadCells
  rw [run_loadCellsFrom cs.length 0 cs #[] rfl (by simpa using hr)]
  simp

theorem Loads.scalar {T : Tab} (hT : T.Ok P) {t : TypeId} {i : TI} (ht : T.get t = some i) (ha : i.agg = false) {b o : Nat} {v : Value} (h : w.cell? ⟨b, o, none⟩ = some v) : Loads P w t b o v := by
  obtain ⟨d, hd, hda⟩ := TI.und (hT.get _ _ ht)
  unfold Loads loadVar
  rw [run_bind _ _ (run_isAgg hd), hda, ha]
  exact run_load h

theorem Loads.agg {T : Tab} (hT : T.Ok P) {t : TypeId} {i : TI} (ht : T.get t = some i) (ha : i.agg = true) {b o : Nat} {cs : List Value} (hl : cs.length = i.size) (h : Row w b o cs) : Loads P w t b o (.agg cs.toArray) := by
  obtain ⟨d, hd, hda⟩ := TI.und (hT.get _ _ ht)
  obtain ⟨j, hj, hsz, _⟩ := TI.info (hT.get _ _ ht)
  unfold Loads loadVar
  rw [run_bind _ _ (run_isAgg hd), hda, ha]
  simp only [if_true]
  rw [run_bind _ _ (run_sizeOf hj), hsz, ← hl, run_bind _ _ (run_loadCells h)]
  rfl

def plainV : Value → Bool
  | .agg _ | .tuple _ => false
  | _ => true

def World.setObj (w : World) (b : Nat) (o : Obj) : World := { w with heap := w.heap.setIfInBounds b o }

theorem setCell_blk {b : Nat} {cs : List Value} {t : TypeId} (h : Blk w b cs t) (o : Nat) (v : Value) :
    w.setCell ⟨b, o, none⟩ v = World.setObj w b (.cells (cs.set o v).toArray t (0, 0)) := by
  unfold World.setCell World.setObj
  congr 1
  apply Array.ext_getElem?
  intro k
  rw [Array.getElem?_modify, Array.getElem?_setIfInBounds]
  by_cases e : b = k
  · subst e
    rw [if_pos rfl, if_pos rfl, if_pos h.lt]
    rw [show w.heap[b]? = _ from h]
    simp
  · rw [if_neg e, if_neg e]

theorem blk_setObj {b : Nat} {cs : List Value} {t : TypeId} (hb : b < w.heap.size) : Blk (World.setObj w b (.cells cs.toArray t (0, 0))) b cs t := by
  unfold Blk World.setObj; simp [hb]

theorem run_store {b o : Nat} {cs : List Value} {t : TypeId} (h : Blk w b cs t) (ho : o < cs.length) {v : Value} (hv : plainV v = true) :
    (store ⟨b, o, none⟩ v).run P w = .ok () (World.setObj w b (.cells (cs.set o v).toArray t (0, 0))) := by
  have hc : w.cell? ⟨b, o, none⟩ = some cs[o] := h.cell (by simp [ho])
  have hf : w.frozen? ⟨b, o, none⟩ = false := by
    unfold World.frozen?
    rw [show w.heap[b]? = _ from h]; simp
  rw [← setCell_blk h]
  unfold store
  cases v <;> first | (simp [plainV] at hv; done) | simp [Sem.run, hc, hf]

theorem run_storeCells {b o : Nat} {t : TypeId} : ∀ (vs : List Value) (i : Nat) (cs : List Value) {w : World}, Blk w b cs t → o + i + vs.length ≤ cs.length → (∀ v ∈ vs, plainV v = true) →
    (storeCells ⟨b, o, none⟩ vs i).run P w = .ok () (World.setObj w b (.cells (setAt cs (o + i) vs).toArray t (0, 0)))
  | [], i, cs, w, h, _, _ => by
    unfold storeCells
    simp only [pure, Sem.run, setAt]
    congr 1
    unfold World.setObj
    have : w.heap.setIfInBounds b (.cells cs.toArray t (0, 0)) = w.heap := by
      apply Array.ext_getElem?
      intro k
      rw [Array.getElem?_setIfInBounds]
      by_cases e : b = k
      · subst e; rw [if_pos rfl, if_pos (Blk.lt h)]; exact h.symm
      · rw [if_neg e]
    rw [this]
  | v :: r, i, cs, w, h, hl, hp => by
    unfold storeCells
    simp only [List.length_cons] at hl
    rw [add_none, run_bind _ _ (run_store h (by omega) (hp v (by simp)))]
    rw [run_storeCells r (i + 1) (cs.set (o + i) v) (blk_setObj h.lt) (by simp; omega) (fun u hu => hp u (by simp [hu]))]
    congr 1
    unfold World.setObj
    simp [setAt, Nat.add_assoc]

def Leaves (P : Program) (fr : Frame) (R : Value → World → Prop) (X : List PanicEntry → World → Prop) (w : World) : Prop :=
  ∀ cs, ∃ e w' fr', endP R X e w' ∧ Steps P (lone fr cs w) (lone fr' cs w') ∧ fr'.fn = fr.fn ∧ fr'.leaving P w' e

def FnQ (P : Program) (g : FuncId) (R : Value → World → Prop) (X : List PanicEntry → World → Prop) : Out → Act → World → Prop
  | .fall, a, w | .ret, a, w => ∀ todo, Leaves P { fn := g, tmps := a.tmps, todo, defers := a.defers, mode := .returning, kind := .normal } R X w
  | .panic ch, a, w => ∀ todo, Leaves P { fn := g, tmps := a.tmps, todo, defers := a.defers, mode := .panicking ch, kind := .normal } R X w
  | .exit _, _, _ => False

def Body (P : Program) (g : FuncId) : Prop := ∃ fn, P.funcs[g]? = some fn ∧ (fn.name == "runtime.NumGoroutine") = false ∧ fn.body.isNone = false
def RetsX (P : Program) (g : FuncId) (args : List Value) (w : World) (R : Value → World → Prop) (X : List PanicEntry → World → Prop) : Prop :=
  Body P g ∧ Calls P g args.toArray w (endP R X)
def Rets (P : Program) (g : FuncId) (args : List Value) (w : World) (R : Value → World → Prop) : Prop := RetsX P g args w R fun _ _ => False

theorem RetsX.mono {g : FuncId} {args : List Value} {R R' : Value → World → Prop} {X X' : List PanicEntry → World → Prop} (h : RetsX P g args w R X) (hR : ∀ v w, R v w → R' v w) (hX : ∀ v w, X v w → X' v w) : RetsX P g args w R' X' :=
  ⟨h.1, h.2.mono (endP.mono hR hX)⟩
theorem Rets.mono {g : FuncId} {args : List Value} {R R' : Value → World → Prop} (h : Rets P g args w R) (hR : ∀ v w, R v w → R' v w) : Rets P g args w R' := RetsX.mono h hR fun _ _ h => h

theorem run_callFunc {g : FuncId} (h : Body P g) (args : Array Value) : (callFunc g args).run P w = .ok (.enter g args) w := by
  obtain ⟨fn, h1, h2, h3⟩ := h
  unfold callFunc
  rw [run_bind _ _ (show (program : Sem Program).run P w = .ok P w from rfl), h1]
  simp only
  rw [if_neg (by rw [h2]; simp), if_neg (by rw [h3]; simp)]
  rfl

def argEnv : Nat → List Value → Env
  | _, [] => []
  | i, v :: r => (i, v) :: argEnv (i + 1) r

theorem argEnv_get : ∀ (args : List Value) (i t : Nat) (v : Value), (argEnv i args).get t = some v → i ≤ t ∧ args[t - i]? = some v
  | [], i, t, v, h => by simp [argEnv, Env.get] at h
  | u :: r, i, t, v, h => by
    unfold argEnv at h
    by_cases e : i = t
    · subst e; rw [Env.get_cons_same] at h; simp at h; subst h; simp
    · rw [Env.get_cons_ne e] at h
      have := argEnv_get r (i + 1) t v h
      refine ⟨by omega, ?_⟩
      rw [show t - i = (t - (i + 1)) + 1 by omega]
      simpa using this.2

theorem RetsX.of {g : FuncId} {fn : Func} {code : Code} {args : List Value} {nt : Nat} {R : Value → World → Prop} {X : List PanicEntry → World → Prop} {env : Env} (hf : P.funcs[g]? = some fn)
    (hname : (fn.name == "runtime.NumGoroutine") = false) (hb : fn.body = some code) (hn : fn.ntmps = nt) (hle : args.length ≤ nt) (henv : argEnv 0 args = env)
    (h : RunE P ⟨g, .normal, none⟩ nt [] [.code code] (FnQ P g R X) env w) : RetsX P g args w R X := by
  refine ⟨⟨fn, hf, hname, by simp [hb]⟩, fun cs => ?_⟩
  subst hn; subst henv
  have hst : St fn.ntmps [] (argEnv 0 args) { tmps := args.toArray ++ Array.replicate (fn.ntmps - args.toArray.size) undef, defers := [] } := by
    refine ⟨by simp; omega, rfl, fun t v hv => ?_⟩
    obtain ⟨_, h2⟩ := argEnv_get _ _ _ _ hv
    have h2' : args[t]? = some v := by simpa using h2
    have hlt : t < args.length := by
      rcases Nat.lt_or_ge t args.length with h' | h'
      · exact h'
      · rw [List.getElem?_eq_none h'] at h2'; simp at h2'
    rw [Array.getElem?_append_left (by simpa using hlt)]
    simpa using h2'
  obtain ⟨o, a', w', hq, hfin⟩ := h _ hst cs
  have henter : Frame.enter P g args.toArray .normal = (⟨g, .normal, none⟩ : Ctx).fr { tmps := args.toArray ++ Array.replicate (fn.ntmps - args.toArray.size) undef, defers := [] } [.code code] := by
    simp [Frame.enter, Ctx.fr, hf, hb]
  rw [← henter] at hfin
  have done : ∀ fr, fr.fn = g → Steps P (lone (Frame.enter P g args.toArray .normal) cs w) (lone fr cs w') → Leaves P fr R X w' →
      ∃ e w'' fr', endP R X e w'' ∧ Comes P (lone (Frame.enter P g args.toArray .normal) cs w) (lone fr' cs w'') e ∧ fr'.fn = g ∧ fr'.leaving P w'' e := by
    intro fr hfn hs hl
    obtain ⟨e, w'', fr', h1, h2, h3, h4⟩ := hl cs
    refine ⟨e, w'', fr', h1, ?_, h3.trans hfn, h4⟩
    cases e with
    | outgrown => exact h1.elim
    | returned v => exact hs.trans h2
    | panicked ch => exact hs.trans h2
  cases o with
  | fall =>
    refine done _ rfl (Steps.trans hfin (.one (step_lone_go (fr' := { fn := g, tmps := a'.tmps, todo := [], defers := a'.defers, mode := .returning, kind := .normal }) ?_))) (hq [])
    simp [stepG, stepG.exec, Ctx.fr]
  | ret =>
    obtain ⟨k, hk⟩ := hfin
    refine done _ rfl (Steps.trans hk (.one (step_lone_go (fr' := { fn := g, tmps := a'.tmps, todo := .code .ret :: k, defers := a'.defers, mode := .returning, kind := .normal }) ?_))) (hq _)
    simp [stepG, stepG.exec, Ctx.fr]
  | exit id => exact hq.elim
  | panic ch =>
    obtain ⟨todo, hk⟩ := hfin
    exact done _ rfl hk (hq todo)

inductive ResOk (P : Program) (w : World) (env : Env) : List ResultVar → List Value → Prop where
  | nil : ResOk P w env [] []
  | tmp {t : Tmp} {v : Value} {r : List ResultVar} {vs : List Value} (h : env.get t = some v) (hr : ResOk P w env r vs) : ResOk P w env (.tmp t :: r) (v :: vs)
  | cell {t : Tmp} {ty : TypeId} {b o : Nat} {v : Value} {r : List ResultVar} {vs : List Value} (h : env.get t = some (.pointer (some ⟨b, o, none⟩))) (hl : Loads P w ty b o v) (hr : ResOk P w env r vs) :
      ResOk P w env (.cell t ty :: r) (v :: vs)

def oneOr : List Value → Value
  | [v] => v
  | vs => .tuple vs.toArray

theorem ResOk.run {env : Env} {rs : List ResultVar} {vs : List Value} (h : ResOk P w env rs vs) {n : Nat} {ds : List Deferred} {a : Act} (ha : St n ds env a) :
    (rs.mapM (fun r => match r with | .tmp t => pure (a.tmps.getD t undef) | .cell ad t => do loadVar t (← asAddr (a.tmps.getD ad undef)) : ResultVar → Sem Value)).run P w = .ok vs w := by
  induction h with
  | nil => rfl
  | tmp h hr ih =>
    rw [List.mapM_cons]
    rw [run_bind _ _ (show (pure (a.tmps.getD _ undef) : Sem Value).run P w = .ok _ w from rfl), run_bind _ _ ih]
    simp [ha.get _ _ h, pure]
  | @cell t ty b o v r vs h hl hr ih =>
    rw [List.mapM_cons]
    have hp : a.tmps.getD t undef = .pointer (some ⟨b, o, none⟩) := by
      simp only [Array.getD_eq_getD_getElem?, ha.get _ _ h, Option.getD_some]
    simp only [hp]
    have h1 : (do loadVar ty (← asAddr (.pointer (some ⟨b, o, none⟩))) : Sem Value).run P w = .ok v w := by
      rw [run_bind _ _ (show (asAddr (.pointer (some ⟨b, o, none⟩))).run P w = .ok ⟨b, o, none⟩ w from rfl)]; exact hl
    rw [run_bind _ _ h1, run_bind _ _ ih]
    rfl

theorem ResOk.resultsRun {env : Env} {fn : Func} {vs : List Value} (h : ResOk P w env fn.results.toList vs) {n : Nat} {ds : List Deferred} {a : Act} (ha : St n ds env a) :
    (Go.results fn a.tmps).run P w = .ok (oneOr vs) w := by
  unfold Go.results
  rw [Array.mapM_eq_mapM_toList, ← bind_pure_comp]
  refine Eq.trans (run_bind (v := vs.toArray) (w' := w) _ _ (Eq.trans (run_bind (v := vs) (w' := w) _ _ (h.run ha)) rfl)) ?_
  match vs with
  | [] => rfl
  | [v] => rfl
  | v :: u :: r => simp [oneOr, pure]

theorem Leaves.ret {g : FuncId} {fn : Func} (hf : P.funcs[g]? = some fn) {tmps : Array Value} {todo : List Item} {R : Value → World → Prop} {X : List PanicEntry → World → Prop} {v : Value}
    (hr : (Go.results fn tmps).run P w = .ok v w) (h : R v w) : Leaves P { fn := g, tmps, todo, defers := [], mode := .returning, kind := .normal } R X w :=
  fun _ => ⟨.returned v, w, _, h, Steps.refl _ _, rfl, rfl, rfl, rfl, fn, hf, hr⟩

theorem RunE.retFn {c : Ctx} {n : Nat} {k : List Item} {g : FuncId} {fn : Func} {R : Value → World → Prop} {X : List PanicEntry → World → Prop} {env : Env} (hf : P.funcs[g]? = some fn) {vs : List Value}
    (hr : ResOk P w env fn.results.toList vs) (h : R (oneOr vs) w) : RunE P c n [] (.code .ret :: k) (FnQ P g R X) env w :=
  .ret fun a ha todo => by
    have := Leaves.ret (P := P) (w := w) (todo := todo) (X := X) hf (hr.resultsRun ha) h
    rw [ha.defers]; exact this

theorem RunE.fallFn {c : Ctx} {n : Nat} {g : FuncId} {fn : Func} {R : Value → World → Prop} {X : List PanicEntry → World → Prop} {env : Env} (hf : P.funcs[g]? = some fn) {vs : List Value}
    (hr : ResOk P w env fn.results.toList vs) (h : R (oneOr vs) w) : RunE P c n [] [] (FnQ P g R X) env w :=
  .nil fun a ha todo => by
    have := Leaves.ret (P := P) (w := w) (todo := todo) (X := X) hf (hr.resultsRun ha) h
    rw [ha.defers]; exact this

end Go.Rn

namespace Go.Rn
open Go.RowKit

variable {P : Program} {c : Ctx} {k : List Item} {Q : Out → Act → World → Prop} {w : World} {n : Nat} {ds : List Deferred} {env : Env}
variable {ops : Array Oper} {d : Tmp} {ty : TypeId} {pos : String} {after : Array Edge} {guard : Option (Nat × Bool)} {rest : List Oper}

def FnV (P : Program) (f : Value) (args : List Value) (w : World) (R : Value → World → Prop) (X : List PanicEntry → World → Prop) : Prop :=
  ExecE P (do let d ← Deferred.ofValue f args.toArray; invoke d.target d.args) w R X

theorem RetsX.v {g : FuncId} {fi args ca : List Value} {R : Value → World → Prop} {X : List PanicEntry → World → Prop} (h : RetsX P g (fi ++ args ++ ca) w R X) :
    FnV P (.func (.func g) fi.toArray ca.toArray) args w R X := by
  unfold FnV ExecE
  have : (do let d ← Deferred.ofValue (.func (.func g) fi.toArray ca.toArray) args.toArray; invoke d.target d.args : Sem Next).run P w = .ok (.enter g (fi ++ args ++ ca).toArray) w := by
    rw [run_bind _ _ (show (Deferred.ofValue (.func (.func g) fi.toArray ca.toArray) args.toArray).run P w = .ok { target := .fn (.func g) ca.toArray, args := fi.toArray ++ args.toArray } w from rfl)]
    simp only [invoke]
    rw [run_callFunc h.1]
    simp
  rw [this]
  exact h.2

theorem FnV.mono {f : Value} {args : List Value} {R R' : Value → World → Prop} {X X' : List PanicEntry → World → Prop} (h : FnV P f args w R X) (hR : ∀ v w, R v w → R' v w) (hX : ∀ v w, X v w → X' v w) : FnV P f args w R' X' :=
  ExecE.mono hR hX h

theorem RunL.callV {f : Operand} {fv : Value} {args : Array Operand} {ts : Array TypeId} {vs : List Value} {R : Value → World → Prop} {X : List PanicEntry → World → Prop}
    (hw : wantE ops.toList env ⟨some d, .call ⟨.value f, args, ts⟩, ty, pos, after, guard⟩ = some true) (hdst : Nat.blt d n = true) (hf : evO env f = some fv) (ha : evL env args.toList = some vs)
    (hc : FnV P fv vs w R X) (hX : ∀ ch w' a, X ch w' → a.defers = ds → Q (.panic ch) a w')
    (h : ∀ v w', R v w' → RunL P c n ds ops rest k Q ((d, v) :: env) w') : RunL P c n ds ops (⟨some d, .call ⟨.value f, args, ts⟩, ty, pos, after, guard⟩ :: rest) k Q env w :=
  .exec hw rfl hdst fun ρ hρ => by
    have e : execOp ρ ⟨some d, .call ⟨.value f, args, ts⟩, ty, pos, after, guard⟩ = (do let d ← Deferred.ofValue fv vs.toArray; invoke d.target d.args) := by
      simp only [execOp, resolve, hρ _ _ hf, evL_mapA hρ ha]
    rw [e]
    exact ExecE.mono h (fun ch w' hx a had => hX ch w' a hx had) hc

theorem RunL.call {g : FuncId} {args : Array Operand} {ts : Array TypeId} {vs : List Value} {R : Value → World → Prop}
    (hw : wantE ops.toList env ⟨some d, .call ⟨.value (.func g), args, ts⟩, ty, pos, after, guard⟩ = some true) (hdst : Nat.blt d n = true) (ha : evL env args.toList = some vs)
    (hc : Rets P g vs w R) (h : ∀ v w', R v w' → RunL P c n ds ops rest k Q ((d, v) :: env) w') :
    RunL P c n ds ops (⟨some d, .call ⟨.value (.func g), args, ts⟩, ty, pos, after, guard⟩ :: rest) k Q env w :=
  .callV (fv := .func (.func g) #[] #[]) hw hdst rfl ha (RetsX.v (fi := []) (ca := []) (X := fun _ _ => False) (by have hc' : RetsX P g vs w R (fun _ _ => False) := hc; simpa using hc')) (fun _ _ _ h => h.elim) h

theorem RunL.alloc {T : Tab} (hT : T.Ok P) {t : TypeId} {i : TI} (hw : wantE ops.toList env ⟨some d, .alloc t, ty, pos, after, guard⟩ = some true) (hdst : Nat.blt d n = true) (ht : T.get t = some i)
    (h : ∀ B w', Added w w' B (.cells i.zero.toArray t (0, 0)) → RunL P c n ds ops rest k Q ((d, .pointer (some ⟨B, 0, none⟩)) :: env) w') :
    RunL P c n ds ops (⟨some d, .alloc t, ty, pos, after, guard⟩ :: rest) k Q env w :=
  .exec hw rfl hdst fun ρ hρ => by
    obtain ⟨j, dd, z, hj, hd, hz, h1, h2, h3, h4, h5, _⟩ := TI.inv (hT.get _ _ ht)
    refine ExecE.of_value (w' := { w with heap := w.heap.push (.cells i.zero.toArray t) }) (v := .pointer (some ⟨w.heap.size, 0, none⟩)) ?_ (h _ _ (added_push w _))
    simp only [execOp, Instr.alloc]
    have hzv : (zeroValue t).run P w = .ok z w := by unfold zeroValue; rw [run_bind _ _ (run_typeInfo hj), hz]; rfl
    refine Eq.trans (run_bind (v := .pointer (some ⟨w.heap.size, 0, none⟩)) (w' := { w with heap := w.heap.push (.cells i.zero.toArray t) }) _ _ ?_) rfl
    rw [run_bind _ _ hzv]
    rw [h3]
    rfl

theorem RunL.box {t : TypeId} {x : Operand} {v : Value} (hw : wantE ops.toList env ⟨some d, .box t x, ty, pos, after, guard⟩ = some true) (hdst : Nat.blt d n = true) (hx : evO env x = some v)
    (h : ∀ B w', Added w w' B (.cells v.cells t (0, 0)) → RunL P c n ds ops rest k Q ((d, .pointer (some ⟨B, 0, none⟩)) :: env) w') :
    RunL P c n ds ops (⟨some d, .box t x, ty, pos, after, guard⟩ :: rest) k Q env w :=
  .exec hw rfl hdst fun ρ hρ => by
    refine ExecE.of_value (w' := { w with heap := w.heap.push (.cells v.cells t) }) (v := .pointer (some ⟨w.heap.size, 0, none⟩)) ?_ (h _ _ (added_push w _))
    simp only [execOp, Instr.box, hρ _ _ hx]
    rfl

theorem RunL.store {T : Tab} (hT : T.Ok P) {t bt : TypeId} {i : TI} {x y : Operand} {b o : Nat} {v : Value} {cs : List Value}
    (hw : wantE ops.toList env ⟨none, .store t x y, ty, pos, after, guard⟩ = some true) (hx : evO env x = some (.pointer (some ⟨b, o, none⟩))) (hy : evO env y = some v)
    (ht : T.get t = some i) (hsz : v.cells.toList.length = i.size) (hb : Blk w b cs bt) (hlen : Nat.ble (o + v.cells.toList.length) cs.length = true) (hp : v.cells.toList.all plainV = true)
    (h : ∀ w', Turned w w' b (.cells (setAt cs o v.cells.toList).toArray bt (0, 0)) → RunL P c n ds ops rest k Q env w') :
    RunL P c n ds ops (⟨none, .store t x y, ty, pos, after, guard⟩ :: rest) k Q env w :=
  .exec hw rfl rfl fun ρ hρ => by
    refine ExecE.of_skip (w' := World.setObj w b (.cells (setAt cs o v.cells.toList).toArray bt (0, 0))) ?_ (h _ (turned_set w hb.lt _))
    simp only [execOp, Instr.storeAt, hρ _ _ hx, hρ _ _ hy]
    refine Eq.trans (run_bind (v := ()) (w' := World.setObj w b (.cells (setAt cs o v.cells.toList).toArray bt (0, 0))) _ _ ?_) rfl
    rw [run_bind _ _ (show (Instr.sureAddr (.pointer (some ⟨b, o, none⟩))).run P w = .ok ⟨b, o, none⟩ w from rfl)]
    obtain ⟨j, hj, hs, _⟩ := TI.info (hT.get _ _ ht)
    unfold storeVar
    rw [run_bind _ _ (run_sizeOf hj)]
    rw [if_neg (by rw [hs, ← hsz]; simp)]
    have := run_storeCells (P := P) v.cells.toList 0 cs hb (by have := Nat.le_of_ble_eq_true hlen; omega) (List.all_eq_true.1 hp)
    simpa using this

end Go.Rn

namespace Go.Rn
open Go.RowKit

variable {P : Program} {c : Ctx} {k : List Item} {Q : Out → Act → World → Prop} {w : World} {n : Nat} {ds : List Deferred} {env : Env}

def yieldV (l : Nat) : Value := .func (.yield l) #[] #[]
def markOf (d : Nat) : Deferred := { target := .collected d, args := #[] }

theorem run_getObj {r : Nat} {o : Obj} (h : w.heap[r]? = some o) (hc : ∀ c t f, o ≠ .cells c t f) : (getObj r).run P w = .ok o w := by
  unfold getObj Sem.run
  rw [h]
  cases o <;> first | rfl | exact absurd rfl (hc _ _ _)
theorem run_setObj {r : Nat} {o o' : Obj} (h : w.heap[r]? = some o) (hc : ∀ c t f, o ≠ .cells c t f) : (Go.setObj r o').run P w = .ok () (World.setObj w r o') := by
  unfold Go.setObj Sem.run
  rw [h]
  cases o <;> first | rfl | exact absurd rfl (hc _ _ _)

theorem run_getLoop {l : Nat} {lp : Loop} (h : w.heap[l]? = some (.loop lp)) : (Instr.getLoop l).run P w = .ok lp w := by
  unfold Instr.getLoop
  rw [run_bind _ _ (run_getObj h (by intros; simp))]
  rfl

theorem turned_setObj {b : Nat} {o : Obj} (hb : b < w.heap.size) : Turned w (World.setObj w b o) b o := turned_set w hb o

structure LpOk (lp : Loop) (fn : FuncId) (a : Act) (params : Array Tmp) (assign body : Code) : Prop where
  fn : lp.fn = fn
  tmps : lp.tmps = a.tmps
  params : lp.params = params
  assign : lp.assign = assign
  body : lp.body = body
  state : lp.state = .ready
  pending : lp.pending = none

theorem LpOk.back {lp : Loop} {fn : FuncId} {a : Act} {params : Array Tmp} {assign body : Code} (h : LpOk lp fn a params assign body) :
    ({ ({ lp with state := .busy } : Loop) with state := .ready, pending := none } : Loop) = lp := by
  have h1 := h.state
  have h2 := h.pending
  cases lp; simp at h1 h2; subst h1; subst h2; rfl

theorem RunE.rangeFunc {f : Operand} {params : Array Tmp} {assign body : Code} {fv : Value} (hc : c.round = none) (hf : evO env f = some fv)
    (h : ∀ a D L w1 w2 lp, St n ds env a → Added w w1 D (.deferred (some [])) → Added w1 w2 L (.loop lp) → LpOk lp c.fn a params assign body →
      FnV P fv [yieldV L] w2 (fun _ w3 => ∃ lp, w3.heap[L]? = some (.loop lp) ∧ (lp.state == .busy) = false ∧
        ∀ w4, Turned w3 w4 L (.loop { lp with state := .exhausted }) → Run P c ((lp.pending.map Item.code).toList ++ k) Q { a with defers := markOf D :: a.defers } w4) (fun _ _ => False)) :
    RunE P c n ds (.code (.rangeFunc f params assign body) :: k) Q env w := fun a ha cs => by
  obtain ⟨cf, ck, cr⟩ := c
  simp only at hc
  subst hc
  generalize hcc : (⟨cf, ck, none⟩ : Ctx) = c at *
  have hcr : c.round = none := by rw [← hcc]
  have hfe : a.eval f = fv := ha.ev hf
  let w1 : World := { w with heap := w.heap.push (.deferred (some [])) }
  let lp0 : Loop := { state := .ready, pending := none, fn := c.fn, tmps := a.tmps, params, assign, body, defers := w.heap.size }
  let w2 : World := { w1 with heap := w1.heap.push (.loop lp0) }
  have hrun : (Instr.enterLoop c.fn a.tmps params assign body none).run P w = .ok (w1.heap.size, [markOf w.heap.size]) w2 := rfl
  have hV := h a w.heap.size w1.heap.size w1 w2 lp0 ha (added_push w _) (added_push w1 _) ⟨rfl, rfl, rfl, rfl, rfl, rfl, rfl⟩
  -- the call
  let fr' : Frame := { c.fr a (.inRangeFunc w1.heap.size :: k) with defers := markOf w.heap.size :: a.defers }
  have hfr' : fr' = c.fr { a with defers := markOf w.heap.size :: a.defers } (.inRangeFunc w1.heap.size :: k) := rfl
  have hev : fr'.eval = a.eval := by rw [hfr', c.fr_eval]; funext x; cases x <;> rfl
  have hstep : stepG P true { frame := c.fr a (.code (.rangeFunc f params assign body) :: k), callers := cs, status := .running, dying := none } w =
      GStep.after (seen P c.fn ((Instr.enterLoop c.fn a.tmps params assign body none).runT P w #[]).2)
        (stepG.apply P true fr' cs none (do let d ← Deferred.ofValue fv #[yieldV w1.heap.size]; invoke d.target d.args) w2) := by
    have e1 : ((Instr.enterLoop c.fn a.tmps params assign body none).runT P w #[]).1 = .ok (w1.heap.size, [markOf w.heap.size]) w2 := by
      rw [Sem.runT_eq]; exact hrun
    simp only [stepG, stepG.exec, Ctx.fr, hcr]
    generalize hg : (Instr.enterLoop c.fn a.tmps params assign body none).runT P w #[] = g at e1
    obtain ⟨r, es⟩ := g
    simp only at e1
    subst e1
    simp only
    congr 1
    have : (do let d ← resolve fr'.eval { callee := Callee.value f, args := #[Operand.const (Value.func (Fn.yield w1.heap.size) #[] #[])], argTypes := #[] } 0; invoke d.target d.args : Sem Next)
        = (do let d ← Deferred.ofValue fv #[yieldV w1.heap.size]; invoke d.target d.args) := by
      rw [hev]
      simp only [resolve, hfe]
      rw [show Array.map a.eval #[Operand.const (Value.func (Fn.yield w1.heap.size) #[] #[])] = #[yieldV w1.heap.size] from by simp [Act.eval, yieldV]]
    rw [← this]
    have : fr' = { fn := c.fn, tmps := a.tmps, todo := .inRangeFunc w1.heap.size :: k, defers := [markOf w.heap.size] ++ a.defers, mode := .run, kind := c.kind, roundOf := none } := by
      rw [← hcr]; rfl
    rw [this]
  have fin : ∀ v w3, (∃ lp, w3.heap[w1.heap.size]? = some (.loop lp) ∧ (lp.state == .busy) = false ∧
        ∀ w4, Turned w3 w4 w1.heap.size (.loop { lp with state := .exhausted }) → Run P c ((lp.pending.map Item.code).toList ++ k) Q { a with defers := markOf w.heap.size :: a.defers } w4) →
      Steps P (lone (c.fr a (.code (.rangeFunc f params assign body) :: k)) cs w) (lone (fr'.finish v) cs w3) →
      ∃ o a' w', Q o a' w' ∧ Fin P (lone (c.fr a (.code (.rangeFunc f params assign body) :: k)) cs w) c cs o a' w' := by
    rintro v w3 ⟨lp, hl, hs, hk⟩ hst
    have hrunE : (Instr.endLoop w1.heap.size).run P w3 = .ok lp.pending (World.setObj w3 w1.heap.size (.loop { lp with state := .exhausted })) := by
      unfold Instr.endLoop
      rw [run_bind _ _ (run_getLoop hl)]
      rw [hs]
      simp only [Bool.false_eq_true, if_false]
      rw [run_bind _ _ (run_setObj hl (by intros; simp))]
      rfl
    obtain ⟨o, a', w', q, f'⟩ := hk _ (turned_setObj (lt_of_get hl)) cs
    refine ⟨o, a', w', q, Fin.of_steps (Steps.trans hst (.one (step_lone_go ?_))) f'⟩
    have e1 : ((Instr.endLoop w1.heap.size).runT P w3 #[]).1 = .ok lp.pending (World.setObj w3 w1.heap.size (.loop { lp with state := .exhausted })) := by
      rw [Sem.runT_eq]; exact hrunE
    simp only [stepG, stepG.exec, Ctx.fr, fr', Frame.finish]
    generalize hg : (Instr.endLoop w1.heap.size).runT P w3 #[] = g at e1
    obtain ⟨r, es⟩ := g
    simp only at e1
    subst e1
    simp
  unfold FnV ExecE at hV
  split at hV
  · rename_i nx w' hr
    have happ : ∀ st, (stepG.apply P true fr' cs none (do let d ← Deferred.ofValue fv #[yieldV w1.heap.size]; invoke d.target d.args) w2).bare = st →
        (stepG P true { frame := c.fr a (.code (.rangeFunc f params assign body) :: k), callers := cs, status := .running, dying := none } w).bare = st := by
      intro st h1; rw [hstep, GStep.bare_after]; exact h1
    cases nx <;> simp only [Lands] at hV
    case value v =>
      refine fin v w' hV (.one (step_lone_go (happ _ ?_)))
      simp [stepG.apply, hr]
    case skip =>
      refine fin undef w' hV (.one (step_lone_go (happ _ ?_)))
      simp [stepG.apply, hr]
    case enter g args =>
      obtain ⟨e, w3, fr3, hR, hsteps, _, hleave⟩ := hV (fr' :: cs)
      have henter : _root_.Go.step P (lone (c.fr a (.code (.rangeFunc f params assign body) :: k)) cs w) = .next (lone (Frame.enter P g args .normal) (fr' :: cs) w') :=
        step_lone_go (happ _ (by simp [stepG.apply, hr, fr', Ctx.fr]))
      cases e with
      | returned v => exact fin v w3 hR (.head henter (Steps.trans hsteps (.one (step_leave_returned hleave))))
      | panicked ch => exact hR.elim
      | outgrown => exact hR.elim
    case round l g tmps assign' body' =>
      have henter : _root_.Go.step P (lone (c.fr a (.code (.rangeFunc f params assign body) :: k)) cs w) = .next (lone (Frame.round l g tmps assign' body' .normal) (fr' :: cs) w') :=
        step_lone_go (happ _ (by simp [stepG.apply, hr, fr', Ctx.fr]))
      rcases hV fr' cs with ⟨v, w3, hR, hs⟩ | ⟨ch, w3, hX, hs⟩
      · exact fin v w3 hR (.head henter hs)
      · exact hX.elim
  · exact hV.elim
  · exact hV.elim

def RoundQ (L : Nat) (R : Value → World → Prop) (X : List PanicEntry → World → Prop) : Out → Act → World → Prop
  | .fall, _, w => ∃ lp, w.heap[L]? = some (.loop lp) ∧ ∀ w', Turned w w' L (.loop { lp with state := .ready, pending := none }) → R (.bool true) w'
  | .ret, _, w => ∃ lp, w.heap[L]? = some (.loop lp) ∧ ∀ w', Turned w w' L (.loop { lp with state := .done, pending := some .ret }) → R (.bool false) w'
  | .exit id, _, w => ∃ lp, w.heap[L]? = some (.loop lp) ∧ ∀ w', Turned w w' L (.loop { lp with state := .done, pending := some (.exit id) }) → R (.bool false) w'
  | .panic ch, a, w => a.defers = [] ∧ X ch w

theorem run_endRound {l : Nat} {lp : Loop} (h : w.heap[l]? = some (.loop lp)) (j : Option Code) :
    (Instr.endRound l j).run P w = .ok (.bool j.isNone) (World.setObj w l (.loop { lp with state := if j.isNone then .ready else .done, pending := j })) := by
  unfold Instr.endRound
  rw [run_bind _ _ (run_getLoop h), run_bind _ _ (run_setObj h (by intros; simp))]
  rfl

theorem leave_round {a : Act} {todo : List Item} {cs : List Frame} {cl : Frame} {L : Nat} {j : Option Code} {lp : Loop} {fn : FuncId} (h : w.heap[L]? = some (.loop lp))
    (ht : (todo = [] ∧ j = none) ∨ (∃ k, todo = .code .ret :: k ∧ j = some .ret) ∨ (∃ id k, exitTo id k = none ∧ todo = .code (.exit id) :: k ∧ j = some (.exit id))) :
    _root_.Go.step P (lone ((⟨fn, .normal, some L⟩ : Ctx).fr a todo) (cl :: cs) w) = .next (lone (cl.finish (.bool j.isNone)) cs (World.setObj w L (.loop { lp with state := if j.isNone then .ready else .done, pending := j }))) := by
  refine step_lone_go ?_
  have e1 := run_endRound (P := P) h j
  rcases ht with ⟨rfl, rfl⟩ | ⟨k, rfl, rfl⟩ | ⟨id, k, hk, rfl, rfl⟩
  · simp [stepG, stepG.exec, Ctx.fr, doReturn, e1]
  · simp [stepG, stepG.exec, Ctx.fr, doReturn, e1]
  · simp [stepG, stepG.exec, Ctx.fr, doReturn, hk, e1]

theorem Yield.of {L : Nat} {lp : Loop} {args : List Value} {R : Value → World → Prop} {X : List PanicEntry → World → Prop} (hl : w.heap[L]? = some (.loop lp)) (hn : args.length = lp.params.size) (hfn : ∃ f, P.funcs[lp.fn]? = some f)
    (h : Run P ⟨lp.fn, .normal, some L⟩ [.code lp.assign, .beginRound, .code lp.body] (RoundQ L R X)
      { tmps := (lp.params.zip args.toArray).foldl (fun tmps (t, a) => tmps.setIfInBounds t a) lp.tmps, defers := [] } w) : FnV P (yieldV L) args w R X := by
  unfold FnV ExecE
  have hr : (do let d ← Deferred.ofValue (yieldV L) args.toArray; invoke d.target d.args : Sem Next).run P w =
      .ok (.round L lp.fn ((lp.params.zip args.toArray).foldl (fun tmps (t, a) => tmps.setIfInBounds t a) lp.tmps) lp.assign lp.body) w := by
    rw [run_bind _ _ (show (Deferred.ofValue (yieldV L) args.toArray).run P w = .ok { target := .fn (.yield L) #[], args := args.toArray } w by simp [Deferred.ofValue, yieldV, pure])]
    simp only [invoke, Instr.yield]
    rw [run_bind _ _ (run_getLoop hl), if_neg (by simp [hn])]
    rfl
  rw [hr]
  simp only [Lands]
  intro cl cs
  obtain ⟨o, a', w', q, hf⟩ := h (cl :: cs)
  have hfr : Frame.round L lp.fn ((lp.params.zip args.toArray).foldl (fun tmps (t, a) => tmps.setIfInBounds t a) lp.tmps) lp.assign lp.body .normal =
      (⟨lp.fn, .normal, some L⟩ : Ctx).fr { tmps := (lp.params.zip args.toArray).foldl (fun tmps (t, a) => tmps.setIfInBounds t a) lp.tmps, defers := [] } [.code lp.assign, .beginRound, .code lp.body] := rfl
  rw [hfr]
  cases o with
  | fall =>
    obtain ⟨lp', h1, h2⟩ := q
    exact .inl ⟨.bool true, _, h2 _ (turned_setObj (lt_of_get h1)), Steps.trans hf (.one (leave_round h1 (.inl ⟨rfl, rfl⟩)))⟩
  | ret =>
    obtain ⟨lp', h1, h2⟩ := q
    obtain ⟨k, hk⟩ := hf
    exact .inl ⟨.bool false, _, h2 _ (turned_setObj (lt_of_get h1)), Steps.trans hk (.one (leave_round h1 (.inr (.inl ⟨k, rfl, rfl⟩))))⟩
  | exit id =>
    obtain ⟨lp', h1, h2⟩ := q
    obtain ⟨k, hk0, hk⟩ := hf
    exact .inl ⟨.bool false, _, h2 _ (turned_setObj (lt_of_get h1)), Steps.trans hk (.one (leave_round h1 (.inr (.inr ⟨id, k, hk0, rfl, rfl⟩))))⟩
  | panic ch =>
    obtain ⟨hd, hx⟩ := q
    obtain ⟨todo, hk⟩ := hf
    refine .inr ⟨ch, _, hx, Steps.trans hk (.one (step_lone_go ?_))⟩
    obtain ⟨f, hf⟩ := hfn
    simp [stepG, Ctx.fr, unwind, hd, Frame.catches, hf]

def parEnv : List Tmp → List Value → Env → Env
  | t :: ts, v :: vs, env => parEnv ts vs ((t, v) :: env)
  | _, _, env => env

theorem parEnv_st : ∀ (ts : List Tmp) (vs : List Value) (env : Env) (tmps : Array Value), (∀ t ∈ ts, t < n) → St n ds env ⟨tmps, ds⟩ →
    St n ds (parEnv ts vs env) ⟨(ts.zip vs).foldl (fun tmps (t, a) => tmps.setIfInBounds t a) tmps, ds⟩
  | [], _, env, tmps, _, h => h
  | _ :: _, [], env, tmps, _, h => h
  | t :: ts, v :: vs, env, tmps, ht, h => by
    simp only [List.zip_cons_cons, List.foldl_cons, parEnv]
    exact parEnv_st ts vs _ _ (fun u hu => ht u (by simp [hu])) (h.put (ht t (by simp)) v)

theorem Yield.run {L : Nat} {lp : Loop} {args : List Value} {R : Value → World → Prop} {X : List PanicEntry → World → Prop} {env' : Env} (hl : w.heap[L]? = some (.loop lp))
    {fn : FuncId} {params : List Tmp} {assign body : Code} {a : Act} (hfn : ∃ f, P.funcs[fn]? = some f) (hst : St n ds env a) (hlp : LpOk lp fn a params.toArray assign body)
    (hn : args.length = params.length) (hp : params.all (Nat.blt · n) = true) (he : parEnv params args env = env')
    (h : RunE P ⟨fn, .normal, some L⟩ n [] [.code assign, .beginRound, .code body] (RoundQ L R X) env' w) : FnV P (yieldV L) args w R X := by
  obtain ⟨h1, h2, h3, h4, h5, _, _⟩ := hlp
  refine Yield.of hl (by rw [h3]; simpa using hn) (by rw [h1]; exact hfn) ?_
  rw [h1, h2, h3, h4, h5]
  refine h _ ?_
  subst he
  have := parEnv_st (n := n) (ds := []) params args env a.tmps (fun t ht => by have := List.all_eq_true.1 hp t ht; simpa [Nat.blt_eq] using this) ⟨hst.size, rfl, hst.get⟩
  have e : (params.toArray.zip args.toArray).foldl (fun tmps (t, a) => tmps.setIfInBounds t a) a.tmps = (params.zip args).foldl (fun tmps (t, a) => tmps.setIfInBounds t a) a.tmps := by
    rw [← Array.foldl_toList, Array.toList_zip]
  rw [e]
  exact this

theorem RunE.beginRound {fn : FuncId} {kind : CallKind} {L : Nat} {lp : Loop} (hl : w.heap[L]? = some (.loop lp)) (hs : lp.state = .ready)
    (h : ∀ w', Turned w w' L (.loop { lp with state := .busy }) → RunE P ⟨fn, kind, some L⟩ n ds k Q env w') : RunE P ⟨fn, kind, some L⟩ n ds (.beginRound :: k) Q env w := fun a ha => by
  have hrun : (do (some L).elim (stuck "beginRound: no round") Instr.beginRound; pure .skip : Sem Next).run P w = .ok .skip (World.setObj w L (.loop { lp with state := .busy })) := by
    simp only [Option.elim]
    rw [run_bind (v := ()) (w' := World.setObj w L (.loop { lp with state := .busy })) _ _ ?_]
    · rfl
    · unfold Instr.beginRound
      rw [run_bind _ _ (run_getLoop hl), run_bind _ _ (run_setObj hl (by intros; simp)), hs]
      rfl
  refine Run.step (fun cs => .one (step_lone_go ?_)) (h _ (turned_setObj (lt_of_get hl)) a ha)
  simp only [stepG, stepG.exec, Ctx.fr]
  simp only [stepG.apply, Sem.runT_eq, hrun]
  simp [Frame.finish]

theorem Leaves.mark {g : FuncId} {tmps : Array Value} {todo : List Item} {D : Nat} {ds : List Deferred} {kind : CallKind} {R : Value → World → Prop} {X : List PanicEntry → World → Prop}
    (hD : w.heap[D]? = some (.deferred (some []))) (h : ∀ w', Turned w w' D (.deferred none) → Leaves P { fn := g, tmps, todo, defers := ds, mode := .returning, kind } R X w') :
    Leaves P { fn := g, tmps, todo, defers := markOf D :: ds, mode := .returning, kind } R X w := fun cs => by
  obtain ⟨e, w', fr', h1, h2, h3, h4⟩ := h _ (turned_setObj (lt_of_get hD)) cs
  refine ⟨e, w', fr', h1, .head (step_lone_go ?_) h2, h3, h4⟩
  have hrun : (Instr.takeDeferred D).run P w = .ok [] (World.setObj w D (.deferred none)) := by
    unfold Instr.takeDeferred
    rw [run_bind _ _ (run_getObj hD (by intros; simp))]
    simp only
    rw [run_bind _ _ (run_setObj hD (by intros; simp))]
    rfl
  have e1 : ((Instr.takeDeferred D).runT P w #[]).1 = .ok [] (World.setObj w D (.deferred none)) := by
    rw [Sem.runT_eq]; exact hrun
  simp only [stepG, unwind, markOf]
  generalize hg : (Instr.takeDeferred D).runT P w #[] = gg at e1
  obtain ⟨r, es⟩ := gg
  simp only at e1
  subst e1
  simp

end Go.Rn
namespace Go.Rn
variable {P : Program} {c : Ctx} {k : List Item} {Q : Out → Act → World → Prop} {w : World} {n : Nat} {ds : List Deferred} {env : Env}

theorem RunE.at_ {todo : List Item} {a : Act} {D : Nat} (ha : St n ds env a) (h : RunE P c n (markOf D :: ds) todo Q env w) : Run P c todo Q { a with defers := markOf D :: a.defers } w :=
  h _ ⟨ha.size, by rw [ha.defers], ha.get⟩

theorem RunE.retFn1 {g : FuncId} {fn : Func} {D : Nat} {R : Value → World → Prop} {X : List PanicEntry → World → Prop} (hf : P.funcs[g]? = some fn) (hD : w.heap[D]? = some (.deferred (some [])))
    (h : ∀ w', Turned w w' D (.deferred none) → ∃ vs, ResOk P w' env fn.results.toList vs ∧ R (oneOr vs) w') : RunE P c n [markOf D] (.code .ret :: k) (FnQ P g R X) env w :=
  .ret fun a ha todo => by
    rw [ha.defers]
    refine Leaves.mark hD fun w' ht => ?_
    obtain ⟨vs, h1, h2⟩ := h w' ht
    exact Leaves.ret hf (h1.resultsRun ha) h2
end Go.Rn

namespace Go.Rn
open Go.RowKit

variable {P : Program} {c : Ctx} {k : List Item} {Q : Out → Act → World → Prop} {w : World} {n : Nat} {ds : List Deferred} {env : Env}
variable {ops : Array Oper} {d : Tmp} {ty : TypeId} {pos : String} {after : Array Edge} {guard : Option (Nat × Bool)} {rest : List Oper}

theorem zerosL_length (z : List Value) : ∀ m, (zerosL z m).length = m * z.length
  | 0 => by simp [zerosL]
  | m + 1 => by simp [zerosL, zerosL_length z m, Nat.add_mul, Nat.add_comm]

theorem zerosL_get (z : List Value) : ∀ (m i : Nat), i < m * z.length → (zerosL z m)[i]? = z[i % z.length]?
  | 0, i, h => by simp at h
  | m + 1, i, h => by
    simp only [zerosL]
    rcases Nat.lt_or_ge i z.length with h' | h'
    · rw [List.getElem?_append_left h', Nat.mod_eq_of_lt h']
    · rw [List.getElem?_append_right h', zerosL_get z m (i - z.length) (by rw [Nat.add_mul] at h; omega)]
      congr 1
      rw [Nat.mod_eq_sub_mod h']

theorem range_zeros (z : Array Value) (m : Nat) : ((Array.range (m * z.size)).map (z[· % z.size]!)).toList = zerosL z.toList m := by
  apply List.ext_getElem?
  intro i
  rcases Nat.lt_or_ge i (m * z.size) with h | h
  · rw [zerosL_get _ _ _ (by simpa using h)]
    have hz : 0 < z.size := by
      rcases Nat.eq_zero_or_pos z.size with h0 | h0
      · rw [h0] at h; simp at h
      · exact h0
    have hm : i % z.size < z.size := Nat.mod_lt _ hz
    simp [h, hm]
  · rw [List.getElem?_eq_none (by simpa using h), List.getElem?_eq_none (by rw [zerosL_length]; simpa using h)]

def buildCells (z : List Value) (len sz : Nat) (ps : List (Nat × Value)) : Option (List Value) :=
  match fillL (fun i => some (i * sz, sz)) (zerosL z len) ps with
  | some l => force l some
  | none => none

theorem run_buildSlice {T : Tab} (hT : T.Ok P) {t e : TypeId} {sz : Nat} {ag : Bool} {s b len : Nat} {z : List Value} {a u : Bool} {ie : TI} (ht : T.get t = some ⟨.slc sz ag e, s, b, z, a, u⟩) (he : T.get e = some ie)
    (hz : ie.zero.length = sz) (hlen : Nat.ble (len * sz) 16777216 = true) {ps : List (Nat × Value)} {pa : Array (Nat × Value)} (hpa : pa.toList = ps) {cs : List Value} (hcs : buildCells ie.zero len sz ps = some cs) :
    (Instr.buildSlice t len pa).run P w = .ok (.slice (some ⟨w.heap.size, 0, none⟩) len len) { w with heap := w.heap.push (.cells cs.toArray e) } := by
  have htd := TI.tdof (hT.get _ _ ht)
  obtain ⟨hu, hc⟩ := TD.of_slc htd.symm
  obtain ⟨i, dd, hi, hsz, _, _⟩ := cellsAgg_inv hc
  obtain ⟨j, d', zv, hj, hd', hzv, h1, h2, h3, h4, h5, _⟩ := TI.inv (hT.get _ _ he)
  have hlen' := Nat.le_of_ble_eq_true hlen
  unfold Instr.buildSlice
  rw [run_bind _ _ (run_underlying hu)]
  simp only
  rw [run_bind _ _ (run_sizeOf hi), hsz, if_neg (by omega)]
  have hzr : (zeroValue e).run P w = .ok zv w := by unfold zeroValue; rw [run_bind _ _ (run_typeInfo hj), hzv]; rfl
  rw [hi] at hj; cases hj
  have hl : ∃ l, fillL (fun i => some (i * sz, sz)) (zerosL ie.zero len) ps = some l ∧ l = cs := by
    unfold buildCells at hcs
    split at hcs
    · rename_i l hl
      rw [force_eq] at hcs
      simp at hcs; exact ⟨l, hl, hcs⟩
    · simp at hcs
  obtain ⟨l, hl, rfl⟩ := hl
  rw [h3] at hz hl
  by_cases h0 : len * sz = 0
  · have hz' : (zerosL zv.cells.toList len).length = 0 := by rw [zerosL_length, hz]; exact h0
    have hnil : zerosL zv.cells.toList len = [] := List.length_eq_zero_iff.1 hz'
    rw [hnil] at hl
    rw [if_pos h0]
    rw [run_bind (v := (#[] : Array Value)) (w' := w) _ _ rfl, hpa, fill_eq _ _ _ l (by simpa [h0] using hl)]
    rfl
  · rw [if_neg h0, run_bind _ _ hzr, run_bind (v := zv.cells) (w' := w) _ _ rfl]
    have : sz = zv.cells.size := by rw [← hz]; simp
    rw [hpa, fill_eq _ _ _ l (by rw [this, range_zeros, ← this]; exact hl)]
    rfl

end Go.Rn
namespace Go.Rn
variable {P : Program} {c : Ctx} {k : List Item} {Q : Out → Act → World → Prop} {w : World} {n : Nat} {ds : List Deferred} {env : Env}
variable {ops : Array Oper} {d : Tmp} {ty : TypeId} {pos : String} {after : Array Edge} {guard : Option (Nat × Bool)} {rest : List Oper}

end Go.Rn
namespace Go.Rn
theorem sb_ {a b : Env} (h : Sub a b := by repeat (first | exact Sub.nil _ | refine Sub.cons rfl ?_)) : Sub a b := h
end Go.Rn
end
