/- Steps that part on a test; facts that go on to a later world. -/
import Derived.Test.YtgccoipbcbccnaaSl
set_option linter.unusedSimpArgs false
set_option linter.unusedVariables false
set_option linter.unusedSectionVars false
namespace Go.Rn
open Go.RowKit
section
variable {P : Program} {c : Ctx} {k : List Item} {Q : Out → Act → World → Prop} {w : World} {n : Nat} {ds : List Deferred} {env : Env}
variable {ops : Array Oper} {d : Tmp} {op : Op} {ty : TypeId} {pos : String} {after : Array Edge} {guard : Option (Nat × Bool)} {rest : List Oper}
theorem RunL.pureC {T : Tab} (hT : T.Ok P) {m : Bool} (hw : wantE ops.toList env ⟨some d, op, ty, pos, after, guard⟩ = some true) (hdst : Nat.blt d n = true) (hv : evalOp T env op = some (.bool m))
    (ht : m = true → RunL P c n ds ops rest k Q ((d, .bool true) :: env) w) (hf : m = false → RunL P c n ds ops rest k Q ((d, .bool false) :: env) w) : RunL P c n ds ops (⟨some d, op, ty, pos, after, guard⟩ :: rest) k Q env w := by
  cases m with
  | true => exact .pure hT hw hdst hv (ht rfl)
  | false => exact .pure hT hw hdst hv (hf rfl)
/-- A value has just come: it is written in its normal form first. -/
def RunLN (P : Program) (c : Ctx) (n : Nat) (ds : List Deferred) (ops : Array Oper) (rest : List Oper) (k : List Item) (Q : Out → Act → World → Prop) (env : Env) (w : World) (d : Tmp) (v : Value) : Prop :=
  RunL P c n ds ops rest k Q ((d, v) :: env) w
theorem RunL.ev {T : Tab} (hT : T.Ok P) {v : Value} (hw : wantE ops.toList env ⟨some d, op, ty, pos, after, guard⟩ = some true) (hdst : Nat.blt d n = true) (hv : evalOp T env op = some v)
    (h : RunLN P c n ds ops rest k Q env w d v) : RunL P c n ds ops (⟨some d, op, ty, pos, after, guard⟩ :: rest) k Q env w := .pure hT hw hdst hv h
theorem RunL.evV {v : Value} (hw : wantE ops.toList env ⟨some d, op, ty, pos, after, guard⟩ = some true) (hdst : Nat.blt d n = true) (hd : isDefer op = false) (hv : OpV P env w ⟨some d, op, ty, pos, after, guard⟩ v)
    (h : RunLN P c n ds ops rest k Q env w d v) : RunL P c n ds ops (⟨some d, op, ty, pos, after, guard⟩ :: rest) k Q env w := .val hw hdst hd hv h
theorem RunLN.boolT {m : Bool} (hm : m = true) (h : RunL P c n ds ops rest k Q ((d, .bool true) :: env) w) : RunLN P c n ds ops rest k Q env w d (.bool m) := by subst hm; exact h
theorem RunLN.boolF {m : Bool} (hm : m = false) (h : RunL P c n ds ops rest k Q ((d, .bool false) :: env) w) : RunLN P c n ds ops rest k Q env w d (.bool m) := by subst hm; exact h
theorem RunLN.boolC {m : Bool} (ht : m = true → RunL P c n ds ops rest k Q ((d, .bool true) :: env) w) (hf : m = false → RunL P c n ds ops rest k Q ((d, .bool false) :: env) w) : RunLN P c n ds ops rest k Q env w d (.bool m) := by
  cases m with
  | true => exact ht rfl
  | false => exact hf rfl
theorem RunLN.decT {p : Prop} [Decidable p] (hp : p) (h : RunL P c n ds ops rest k Q ((d, .bool true) :: env) w) : RunLN P c n ds ops rest k Q env w d (.bool (decide p)) := .boolT (decide_eq_true hp) h
theorem RunLN.decF {p : Prop} [Decidable p] (hp : ¬ p) (h : RunL P c n ds ops rest k Q ((d, .bool false) :: env) w) : RunLN P c n ds ops rest k Q env w d (.bool (decide p)) := .boolF (decide_eq_false hp) h
theorem RunLN.eqT {a b : Int} (hp : a = b) (h : RunL P c n ds ops rest k Q ((d, .bool true) :: env) w) : RunLN P c n ds ops rest k Q env w d (.bool (a == b)) := .boolT (beq_iff_eq.2 hp) h
theorem RunLN.eqF {a b : Int} (hp : a ≠ b) (h : RunL P c n ds ops rest k Q ((d, .bool false) :: env) w) : RunLN P c n ds ops rest k Q env w d (.bool (a == b)) := .boolF (beq_eq_false_iff_ne.2 hp) h
theorem RunLN.neT {a b : Int} (hp : a ≠ b) (h : RunL P c n ds ops rest k Q ((d, .bool true) :: env) w) : RunLN P c n ds ops rest k Q env w d (.bool (a != b)) := .boolT (bne_iff_ne.2 hp) h
theorem RunLN.neF {a b : Int} (hp : a = b) (h : RunL P c n ds ops rest k Q ((d, .bool false) :: env) w) : RunLN P c n ds ops rest k Q env w d (.bool (a != b)) := .boolF (bne_eq_false_iff_eq.2 hp) h
theorem RunLN.int {kd : IntKind} {m m' : Int} (hm : m = m') (h : RunL P c n ds ops rest k Q ((d, .int kd m') :: env) w) : RunLN P c n ds ops rest k Q env w d (.int kd m) := by subst hm; exact h
theorem RunLN.any {v : Value} (h : RunL P c n ds ops rest k Q ((d, v) :: env) w) : RunLN P c n ds ops rest k Q env w d v := h
/-- A call that gives a value and changes nothing. -/
theorem RunL.callN {g : FuncId} {args : Array Operand} {ts : Array TypeId} {vs : List Value} {v : Value}
    (hw : wantE ops.toList env ⟨some d, .call ⟨.value (.func g), args, ts⟩, ty, pos, after, guard⟩ = some true) (hdst : Nat.blt d n = true) (ha : evL env args.toList = some vs)
    (hc : Rets P g vs w fun u w' => u = v ∧ w = w') (h : RunLN P c n ds ops rest k Q env w d v) :
    RunL P c n ds ops (⟨some d, .call ⟨.value (.func g), args, ts⟩, ty, pos, after, guard⟩ :: rest) k Q env w :=
  .call hw hdst ha hc fun _ _ hr => by obtain ⟨rfl, rfl⟩ := hr; exact h
/-- A value that is known to be such a Bool, taken apart. -/
theorem RunL.valC {m : Bool} (hw : wantE ops.toList env ⟨some d, op, ty, pos, after, guard⟩ = some true) (hdst : Nat.blt d n = true) (hd : isDefer op = false) (hv : OpV P env w ⟨some d, op, ty, pos, after, guard⟩ (.bool m))
    (ht : m = true → RunL P c n ds ops rest k Q ((d, .bool true) :: env) w) (hf : m = false → RunL P c n ds ops rest k Q ((d, .bool false) :: env) w) : RunL P c n ds ops (⟨some d, op, ty, pos, after, guard⟩ :: rest) k Q env w := by
  cases m with
  | true => exact .val hw hdst hd hv (ht rfl)
  | false => exact .val hw hdst hd hv (hf rfl)
end
section
variable {P : Program} {c : Ctx} {k : List Item} {Q : Out → Act → World → Prop} {w0 : World} {n : Nat} {ds : List Deferred} {env : Env} {S : Nat → Prop} {sats pres : List (Nat × Pred)} {ph : Option (Option Nat × Pred)} {mu : List Bool}
variable {l : List Oper} {d : Tmp} {op : Op} {ty : TypeId} {pos : String} {after : Array Edge} {guard : Option (Nat × Bool)} {rest : List Oper}
theorem Asy.pureC {T : Tab} (hT : T.Ok P) {m : Bool} (hw : wantE l env ⟨some d, op, ty, pos, after, guard⟩ = some true) (hdst : Nat.blt d n = true) (hv : evalOp T env op = some (.bool m))
    (ht : m = true → Asy P c n ds S w0 l k Q rest ⟨(d, .bool true) :: env, sats, ph, false :: mu, pres⟩) (hf : m = false → Asy P c n ds S w0 l k Q rest ⟨(d, .bool false) :: env, sats, ph, false :: mu, pres⟩) :
    Asy P c n ds S w0 l k Q (⟨some d, op, ty, pos, after, guard⟩ :: rest) ⟨env, sats, ph, mu, pres⟩ := by
  cases m with
  | true => exact .pure hT hw hdst hv (ht rfl)
  | false => exact .pure hT hw hdst hv (hf rfl)
def AsyN (P : Program) (c : Ctx) (n : Nat) (ds : List Deferred) (S : Nat → Prop) (w0 : World) (l : List Oper) (k : List Item) (Q : Out → Act → World → Prop) (rest : List Oper) (env : Env) (sats : List (Nat × Pred)) (ph : Option (Option Nat × Pred)) (mu : List Bool) (pres : List (Nat × Pred)) (d : Tmp) (v : Value) : Prop :=
  Asy P c n ds S w0 l k Q rest ⟨(d, v) :: env, sats, ph, false :: mu, pres⟩
theorem Asy.ev {T : Tab} (hT : T.Ok P) {v : Value} (hw : wantE l env ⟨some d, op, ty, pos, after, guard⟩ = some true) (hdst : Nat.blt d n = true) (hv : evalOp T env op = some v)
    (h : AsyN P c n ds S w0 l k Q rest env sats ph mu pres d v) : Asy P c n ds S w0 l k Q (⟨some d, op, ty, pos, after, guard⟩ :: rest) ⟨env, sats, ph, mu, pres⟩ := .pure hT hw hdst hv h
theorem Asy.evV {v : Value} (hw : wantE l env ⟨some d, op, ty, pos, after, guard⟩ = some true) (hdst : Nat.blt d n = true) (hd : isDefer op = false) (hs : isSel op = false)
    (hv : ∀ w', ExtB S w0 w' → OpV P env w' ⟨some d, op, ty, pos, after, guard⟩ v)
    (h : AsyN P c n ds S w0 l k Q rest env sats ph mu pres d v) : Asy P c n ds S w0 l k Q (⟨some d, op, ty, pos, after, guard⟩ :: rest) ⟨env, sats, ph, mu, pres⟩ := .v hw hdst hd hs hv h
theorem AsyN.boolT {m : Bool} (hm : m = true) (h : Asy P c n ds S w0 l k Q rest ⟨(d, .bool true) :: env, sats, ph, false :: mu, pres⟩) : AsyN P c n ds S w0 l k Q rest env sats ph mu pres d (.bool m) := by subst hm; exact h
theorem AsyN.boolF {m : Bool} (hm : m = false) (h : Asy P c n ds S w0 l k Q rest ⟨(d, .bool false) :: env, sats, ph, false :: mu, pres⟩) : AsyN P c n ds S w0 l k Q rest env sats ph mu pres d (.bool m) := by subst hm; exact h
theorem AsyN.boolC {m : Bool} (ht : m = true → Asy P c n ds S w0 l k Q rest ⟨(d, .bool true) :: env, sats, ph, false :: mu, pres⟩) (hf : m = false → Asy P c n ds S w0 l k Q rest ⟨(d, .bool false) :: env, sats, ph, false :: mu, pres⟩) :
    AsyN P c n ds S w0 l k Q rest env sats ph mu pres d (.bool m) := by
  cases m with
  | true => exact ht rfl
  | false => exact hf rfl
theorem AsyN.decT {p : Prop} [Decidable p] (hp : p) (h : Asy P c n ds S w0 l k Q rest ⟨(d, .bool true) :: env, sats, ph, false :: mu, pres⟩) : AsyN P c n ds S w0 l k Q rest env sats ph mu pres d (.bool (decide p)) := .boolT (decide_eq_true hp) h
theorem AsyN.decF {p : Prop} [Decidable p] (hp : ¬ p) (h : Asy P c n ds S w0 l k Q rest ⟨(d, .bool false) :: env, sats, ph, false :: mu, pres⟩) : AsyN P c n ds S w0 l k Q rest env sats ph mu pres d (.bool (decide p)) := .boolF (decide_eq_false hp) h
theorem AsyN.eqT {a b : Int} (hp : a = b) (h : Asy P c n ds S w0 l k Q rest ⟨(d, .bool true) :: env, sats, ph, false :: mu, pres⟩) : AsyN P c n ds S w0 l k Q rest env sats ph mu pres d (.bool (a == b)) := .boolT (beq_iff_eq.2 hp) h
theorem AsyN.eqF {a b : Int} (hp : a ≠ b) (h : Asy P c n ds S w0 l k Q rest ⟨(d, .bool false) :: env, sats, ph, false :: mu, pres⟩) : AsyN P c n ds S w0 l k Q rest env sats ph mu pres d (.bool (a == b)) := .boolF (beq_eq_false_iff_ne.2 hp) h
theorem AsyN.neT {a b : Int} (hp : a ≠ b) (h : Asy P c n ds S w0 l k Q rest ⟨(d, .bool true) :: env, sats, ph, false :: mu, pres⟩) : AsyN P c n ds S w0 l k Q rest env sats ph mu pres d (.bool (a != b)) := .boolT (bne_iff_ne.2 hp) h
theorem AsyN.neF {a b : Int} (hp : a = b) (h : Asy P c n ds S w0 l k Q rest ⟨(d, .bool false) :: env, sats, ph, false :: mu, pres⟩) : AsyN P c n ds S w0 l k Q rest env sats ph mu pres d (.bool (a != b)) := .boolF (bne_eq_false_iff_eq.2 hp) h
theorem AsyN.int {kd : IntKind} {m m' : Int} (hm : m = m') (h : Asy P c n ds S w0 l k Q rest ⟨(d, .int kd m') :: env, sats, ph, false :: mu, pres⟩) : AsyN P c n ds S w0 l k Q rest env sats ph mu pres d (.int kd m) := by subst hm; exact h
theorem AsyN.any {v : Value} (h : Asy P c n ds S w0 l k Q rest ⟨(d, v) :: env, sats, ph, false :: mu, pres⟩) : AsyN P c n ds S w0 l k Q rest env sats ph mu pres d v := h
theorem Asy.callN {g : FuncId} {args : Array Operand} {ts : Array TypeId} {vs : List Value} {v : Value}
    (hw : wantE l env ⟨some d, .call ⟨.value (.func g), args, ts⟩, ty, pos, after, guard⟩ = some true) (hdst : Nat.blt d n = true) (ha : evL env args.toList = some vs)
    (hc : ∀ w', ExtB S w0 w' → Rets P g vs w' fun u w'' => u = v ∧ Ext w' w'') (h : AsyN P c n ds S w0 l k Q rest env sats ph mu pres d v) :
    Asy P c n ds S w0 l k Q (⟨some d, .call ⟨.value (.func g), args, ts⟩, ty, pos, after, guard⟩ :: rest) ⟨env, sats, ph, mu, pres⟩ :=
  .val hw hdst rfl rfl (fun w' e => OpE.call ha (hc w' e)) h
/-- As pre0, sat1, wriP: it reads one that is known by a lasting law; two known by laws that last till now. -/
theorem Asy.pre1 (i : Nat) {t : Nat} {U : Pred} (V : Pred) (hi : sats[i]? = some (t, U)) (hl : (Oper.looksAt l.toArray ⟨some d, op, ty, pos, after, guard⟩).contains t = true)
    (hw : wantE l env ⟨some d, op, ty, pos, after, guard⟩ = some true) (hdst : Nat.blt d n = true) (hd : isDefer op = false) (hs : isSel op = false)
    (hV : ∀ v w' w'', ExtB S w0 w' → Ext w' w'' → V v w' → V v w'')
    (h : ∀ w' x, ExtB S w0 w' → U x w' → OpE P ((t, x) :: env) w' ⟨some d, op, ty, pos, after, guard⟩ (fun u w'' => Ext w' w'' ∧ V u w'') fun _ _ => False)
    (h' : Asy P c n ds S w0 l k Q rest ⟨env.del (some d), sats, ph, false :: mu, (d, V) :: pres⟩) : Asy P c n ds S w0 l k Q (⟨some d, op, ty, pos, after, guard⟩ :: rest) ⟨env, sats, ph, mu, pres⟩ :=
  .step (e := .pre V) ⟨hdst, hs, hw, hd, hV, fun w' ρ hx hg => h w' _ hx (hg.sat t U (List.mem_of_getElem? hi) (by simpa using hl)) ρ (ev_cons hg.ev rfl)⟩ h'
theorem Asy.wriP2 (i j : Nat) {t s : Nat} {U U' : Pred} (V : Pred) (hi : pres[i]? = some (t, U)) (hl : (Oper.looksAt l.toArray ⟨some d, op, ty, pos, after, guard⟩).contains t = true)
    (hj : pres[j]? = some (s, U')) (hl' : (Oper.looksAt l.toArray ⟨some d, op, ty, pos, after, guard⟩).contains s = true)
    (hw : wantE l env ⟨some d, op, ty, pos, after, guard⟩ = some true) (hdst : Nat.blt d n = true) (hd : isDefer op = false) (hs : isSel op = false)
    (hV : ∀ v w' w'', ExtB S w0 w' → Ext w' w'' → V v w' → V v w'')
    (h : ∀ w' x y, Ext w0 w' → U x w' → U' y w' → OpE P ((t, x) :: (s, y) :: env) w' ⟨some d, op, ty, pos, after, guard⟩ (fun u w'' => ExtB S w' w'' ∧ V u w'') fun _ _ => False)
    (h' : Asy P c n ds S w0 l k Q rest ⟨env.del (some d), sats, some (some d, V), true :: mu, pres⟩) : Asy P c n ds S w0 l k Q (⟨some d, op, ty, pos, after, guard⟩ :: rest) ⟨env, sats, none, mu, pres⟩ :=
  .step (e := .wri V) ⟨hdst, hs, hw, hd, hV, fun w' ρ hx hg hp => h w' _ _ hx (hp rfl t U (List.mem_of_getElem? hi) (by simpa using hl)) (hp rfl s U' (List.mem_of_getElem? hj) (by simpa using hl')) ρ (ev_cons (ev_cons hg.ev rfl) rfl)⟩ h'
/-- It writes what was there. -/
theorem Asy.keepN (hw : wantE l env ⟨none, op, ty, pos, after, guard⟩ = some true) (hd : isDefer op = false) (hs : isSel op = false)
    (h : ∀ w', ExtB S w0 w' → OpE P env w' ⟨none, op, ty, pos, after, guard⟩ (fun u w'' => u = undef ∧ w'' = w') fun _ _ => False)
    (h' : Asy P c n ds S w0 l k Q rest ⟨env, sats, ph, false :: mu, pres⟩) : Asy P c n ds S w0 l k Q (⟨none, op, ty, pos, after, guard⟩ :: rest) ⟨env, sats, ph, mu, pres⟩ :=
  .step (e := .val undef) ⟨rfl, hs, .inr ⟨hw, hd, fun w' ρ hx hg => (h w' hx ρ hg.ev).mono (by rintro _ _ ⟨rfl, rfl⟩; exact ⟨rfl, ExtB.refl _ _⟩) (fun _ _ h => h)⟩⟩ h'
theorem Asy.end_ (hc : chk l mu.reverse l [] = true) (h : ∀ w', Ext w0 w' → RunL P c n ds l.toArray rest k Q env w') : Asy P c n ds (fun _ => False) w0 l k Q rest ⟨env, [], none, mu, pres⟩ :=
  .tail hc fun w' e => by simpa [satsAll] using h w' e
end
theorem setObj_same {w : World} {b : Nat} {o : Obj} (h : w.heap[b]? = some o) : World.setObj w b o = w := by
  unfold World.setObj
  have : w.heap.setIfInBounds b o = w.heap := by
    apply Array.ext_getElem?
    intro k
    rw [Array.getElem?_setIfInBounds]
    by_cases e : b = k
    · subst e; rw [if_pos rfl, if_pos (lt_of_get h)]; exact h.symm
    · rw [if_neg e]
  rw [this]
theorem OpE.storeSame {P : Program} {w : World} {env : Env} {ty : TypeId} {pos : String} {after : Array Edge} {guard : Option (Nat × Bool)} {T : Tab} (hT : T.Ok P) {t bt : TypeId} {i : TI} {x y : Operand} {b o : Nat} {v : Value} {cs : List Value}
    (hx : evO env x = some (.pointer (some ⟨b, o, none⟩))) (hy : evO env y = some v)
    (ht : T.get t = some i) (hsz : v.cells.toList.length = i.size) (hb : Blk w b cs bt) (hlen : Nat.ble (o + v.cells.toList.length) cs.length = true) (hp : v.cells.toList.all plainV = true) (he : setAt cs o v.cells.toList = cs) :
    OpE P env w ⟨none, .store t x y, ty, pos, after, guard⟩ (fun u w' => u = undef ∧ w' = w) fun _ _ => False := fun ρ hρ => by
  refine ExecE.of_skip (w' := w) ?_ ⟨rfl, rfl⟩
  simp only [execOp, Instr.storeAt, hρ _ _ hx, hρ _ _ hy]
  refine Eq.trans (run_bind (v := ()) (w' := w) _ _ ?_) rfl
  rw [run_bind _ _ (show (Instr.sureAddr (.pointer (some ⟨b, o, none⟩))).run P w = .ok ⟨b, o, none⟩ w from rfl)]
  obtain ⟨j, hj, hs, _⟩ := TI.info (hT.get _ _ ht)
  unfold storeVar
  rw [run_bind _ _ (run_sizeOf hj)]
  rw [if_neg (by rw [hs, ← hsz]; simp)]
  have := run_storeCells (P := P) v.cells.toList 0 cs hb (by have := Nat.le_of_ble_eq_true hlen; omega) (List.all_eq_true.1 hp)
  rw [Nat.add_zero, he] at this
  rw [show World.setObj w b (.cells cs.toArray bt (0, 0)) = w from setObj_same hb] at this
  simpa using this
theorem Blk.up {w w' : World} {b : Nat} {cs : List Value} {t : TypeId} (h : Blk w b cs t) (e : Ext w w') : Blk w' b cs t := h.ext e id
theorem Row.up {w w' : World} {b o : Nat} {cs : List Value} (h : Row w b o cs) (e : Ext w w') : Row w' b o cs := h.extE e
theorem IsSl.up {w w' : World} {sz n : Nat} {v : Value} {cs : List Value} (h : IsSl w sz v n cs) (e : Ext w w') : IsSl w' sz v n cs := h.extE e
/-- A new block stands behind what was there. -/
theorem Added.ge {w w1 w' : World} {B : Nat} {o : Obj} (h : Added w1 w' B o) (x : Ext w w1) : w.heap.size ≤ B := by rw [h.eq]; exact x.size
/-- An own block is written. -/
theorem ExtB.own {w w1 w2 : World} {B : Nat} (x : Ext w w1) (e : ExtB (· = B) w1 w2) (h : w.heap.size ≤ B) : Ext w w2 := x.write e fun i hi hlt => by subst hi; omega
theorem Blk.other {w w' : World} {b B : Nat} {cs : List Value} {t : TypeId} (h : Blk w b cs t) (e : ExtB (· = B) w w') (hn : b ≠ B) : Blk w' b cs t := h.ext e hn
end Go.Rn
namespace Go.Rec
open Go.Rn
/-- Elements of k cells each. -/
structure EncOk {α : Type} (enc : α → List Value) (k : Nat) : Prop where
  len : ∀ x, (enc x).length = k
  plain : ∀ x, (enc x).all plainV = true
  pos : 0 < k
section
variable {α : Type} {enc : α → List Value} {k : Nat}
def flat (enc : α → List Value) (l : List α) : List Value := (l.map enc).flatten
theorem flat_nil : flat enc [] = [] := rfl
theorem flat_cons (x : α) (l : List α) : flat enc (x :: l) = enc x ++ flat enc l := by simp [flat]
theorem flat_append (a b : List α) : flat enc (a ++ b) = flat enc a ++ flat enc b := by simp [flat]
theorem flat_one (x : α) : flat enc [x] = enc x := by simp [flat]
theorem flat_length (h : EncOk enc k) : ∀ (l : List α), (flat enc l).length = l.length * k
  | [] => by simp [flat]
  | x :: l => by rw [flat_cons, List.length_append, h.len, flat_length h l, List.length_cons, Nat.add_mul]; omega
theorem flat_drop (h : EncOk enc k) : ∀ (l : List α) (i : Nat), (flat enc l).drop (i * k) = flat enc (l.drop i)
  | l, 0 => by simp
  | [], i + 1 => by simp [flat]
  | x :: l, i + 1 => by
    rw [flat_cons, List.drop_succ_cons, ← flat_drop h l i, List.drop_append, h.len, Nat.add_mul, Nat.one_mul, Nat.add_sub_cancel]
    rw [List.drop_eq_nil_of_le (by rw [h.len]; omega)]; rfl
theorem flat_take (h : EncOk enc k) : ∀ (l : List α) (i : Nat), (flat enc l).take (i * k) = flat enc (l.take i)
  | l, 0 => by simp [flat]
  | [], i + 1 => by simp [flat]
  | x :: l, i + 1 => by
    rw [flat_cons, List.take_succ_cons, flat_cons, ← flat_take h l i, List.take_append, h.len, Nat.add_mul, Nat.one_mul, Nat.add_sub_cancel]
    rw [List.take_of_length_le (by rw [h.len]; omega)]
theorem flat_plain (h : EncOk enc k) (l : List α) : (flat enc l).all plainV = true := by
  simp only [flat, List.all_flatten, List.all_map, List.all_eq_true]
  intro x _; exact h.plain x
theorem flat_row (h : EncOk enc k) {w : World} {b o : Nat} {l : List α} (hr : Row w b o (flat enc l)) {i : Nat} {x : α} (hx : l[i]? = some x) : Row w b (o + i * k) (enc x) := by
  refine hr.window (k := i * k) fun j v hv => ?_
  have e := flat_drop h l i
  have hd : l.drop i = x :: l.drop (i + 1) := by
    obtain ⟨hi, e⟩ := List.getElem?_eq_some_iff.1 hx
    rw [List.drop_eq_getElem_cons hi, e]
  rw [hd, flat_cons] at e
  have := congrArg (·[j]?) e
  simp only [List.getElem?_drop] at this
  rw [this, List.getElem?_append_left]
  · exact hv
  · rcases Nat.lt_or_ge j (enc x).length with h' | h'
    · exact h'
    · rw [List.getElem?_eq_none h'] at hv; simp at hv
abbrev IsL (w : World) (enc : α → List Value) (k : Nat) (v : Value) (l : List α) : Prop := IsSl w k v l.length (flat enc l)
/-- Opened: nothing, or a row. -/
theorem isL_inv {w : World} {v : Value} {l : List α} (h : IsL w enc k v l) : (∃ d, v = .slice d 0 0 ∧ l = []) ∨ ∃ b o cap, v = .slice (some ⟨b, o, none⟩) l.length cap ∧ Row w b o (flat enc l) ∧ l.length ≤ cap := by
  rcases h.inv with ⟨d, rfl, h, -⟩ | ⟨b, o, cap, rfl, hr, -, hc⟩
  · exact .inl ⟨d, rfl, List.length_eq_zero_iff.1 h⟩
  · exact .inr ⟨b, o, cap, rfl, hr, hc⟩
theorem isSl_slice {w : World} {sz n : Nat} {v : Value} {cs : List Value} (h : IsSl w sz v n cs) : ∃ d c, v = .slice d n c := by
  rcases h.inv with ⟨d, rfl, h, -⟩ | ⟨b, o, c, rfl, -⟩
  · exact ⟨d, 0, by rw [h]⟩
  · exact ⟨_, c, rfl⟩
theorem isL_ext {S : Nat → Prop} {w w' : World} {v : Value} {l : List α} (h : IsL w enc k v l) (e : ExtB S w w') (hs : l ≠ [] → ∀ j, v.ownBlock = some j → ¬ S j) : IsL w' enc k v l := by
  cases l with
  | cons a l => exact h.ext e (hs (by simp))
  | nil =>
    rcases h.inv with ⟨d, rfl, -, -⟩ | ⟨b, o, c, rfl, hr, hl, hc⟩
    · exact .nil
    · exact .row (fun i v hv => by simp [flat] at hv) hl hc
theorem isL_own {w : World} {v : Value} {l : List α} (h : IsL w enc k v l) (hk : 0 < k) (hl : l ≠ []) {j : Nat} (hj : v.ownBlock = some j) : j < w.heap.size := by
  cases l with
  | nil => exact absurd rfl hl
  | cons a l => exact h.lt (by simp) hk hj
theorem isL_held {w : World} {v : Value} {l : List α} (h : IsL w enc k v l) {i : Nat} (hi : i < l.length) : ∃ b o cap, v = .slice (some ⟨b, o, none⟩) l.length cap ∧ Row w b o (flat enc l) ∧ l.length ≤ cap := by
  obtain ⟨b, o, cap, h1, h2, -, h3⟩ := h.held (by omega)
  exact ⟨b, o, cap, h1, h2, h3⟩
end
end Go.Rec
