/- Structs whose fields are numbers, bools and texts. -/
import Derived.Test.YtgccoipbcbccnaaMap
import Derived.Test.YtgccoipbcbccnaaOpen
set_option linter.unusedSimpArgs false
set_option linter.unusedVariables false
set_option linter.unusedSectionVars false
namespace Go.Rn
open Go.RowKit Go.ChangeShapes Go.WideShapes
inductive FK where
  | int (k : IntKind)
  | bool
  | str
def FK.desc : FK → TypeDesc
  | .int k => .int k
  | .bool => .bool
  | .str => .string
def FK.ok : FK → Value → Prop
  | .int k, v => ∃ n, v = .int k n
  | .bool, v => ∃ b, v = .bool b
  | .str, v => ∃ s, v = .string s
def FK.wf : FK → Value → Prop
  | .int k, v => ∃ n, v = .int k n ∧ (Lit.int k n).wf = true
  | .bool, v => ∃ b, v = .bool b
  | .str, v => ∃ s : ByteArray, v = .string s ∧ s.size ≤ maxLen
def veq : Value → Value → Bool
  | .int _ a, .int _ b => a == b
  | .bool a, .bool b => a == b
  | .string a, .string b => a.toList == b.toList
  | _, _ => false
def eqAll : List Value → List Value → Bool
  | [], [] => true
  | a :: r, b :: s => veq a b && eqAll r s
  | _, _ => false
/-- A struct type with such fields, one cell each. -/
structure Flat (P : Program) (t : TypeId) (ts : List (TypeId × FK)) : Prop where
  und : P.underlying t = some (.struct (P.fieldsOf t))
  fields : (P.fieldsOf t).toList.map (fun f => ((f.name == "_"), f.type, f.offset)) = ts.zipIdx.map fun x => (false, x.1.1, x.2)
  held : P.stoodInHeld t = false
  guard : P.eqGuardType P.depth t = false
  cells : P.cellsOf t = ts.length
  kinds : ∀ x ∈ ts, P.underlying x.1 = some x.2.desc ∧ cellsAgg P x.1 = some (1, false) ∧ P.cellsOf x.1 = 1
variable {P : Program} {w : World}
theorem run_eqFlat {d : Nat} (xs ys : List Value) : ∀ (fs : List Field) (ts : List (TypeId × FK)) (k : Nat), fs.map (fun f => ((f.name == "_"), f.type, f.offset)) = (ts.zipIdx k).map (fun x => (false, x.1.1, x.2)) →
    (∀ x ∈ ts, P.underlying x.1 = some x.2.desc ∧ cellsAgg P x.1 = some (1, false) ∧ P.cellsOf x.1 = 1) → xs.length = k + ts.length → ys.length = k + ts.length →
    (∀ (i : Nat) (x : TypeId × FK), ts[i]? = some x → ∃ u v, xs[k + i]? = some u ∧ ys[k + i]? = some v ∧ x.2.ok u ∧ x.2.ok v) → (Op.eqFields (d + 1) xs.toArray ys.toArray fs).run P w = .ok (eqAll (xs.drop k) (ys.drop k)) w
  | [], [], k, _, _, hx, hy, _ => by
    rw [List.drop_eq_nil_of_le (by simp at hx; omega), List.drop_eq_nil_of_le (by simp at hy; omega)]; rfl
  | [], t :: ts, k, h, _, _, _, _ => by simp at h
  | f :: fs, [], k, h, _, _, _, _ => by simp at h
  | f :: fs, x :: ts, k, h, hk, hx, hy, hv => by
    simp only [List.map_cons, List.zipIdx_cons, List.cons.injEq, Prod.mk.injEq] at h
    obtain ⟨⟨n0, t0, o0⟩, hr⟩ := h
    have n0' : f.name ≠ "_" := by simpa using n0
    obtain ⟨u, v, hu, hv', ku, kv⟩ := hv 0 x rfl
    obtain ⟨hd, hc, -⟩ := hk x List.mem_cons_self
    rw [Nat.add_zero] at hu hv'
    have pu : (part f.type xs.toArray f.offset).run P w = .ok u w := by rw [t0, o0]; exact run_part hc _ _ (by simpa using hu)
    have pv : (part f.type ys.toArray f.offset).run P w = .ok v w := by rw [t0, o0]; exact run_part hc _ _ (by simpa using hv')
    have pe : (Op.equalIn (d + 1) f.type u v).run P w = .ok (veq u v) w := by
      rw [t0]
      obtain ⟨ti, kd⟩ := x
      cases kd with
      | int kk => obtain ⟨a, rfl⟩ := ku; obtain ⟨b, rfl⟩ := kv; exact run_equalIn_int w d ti kk kk a b hd
      | bool => obtain ⟨a, rfl⟩ := ku; obtain ⟨b, rfl⟩ := kv; exact run_equalIn_bool w d ti a b hd
      | str => obtain ⟨a, rfl⟩ := ku; obtain ⟨b, rfl⟩ := kv; exact run_equalIn_string w d ti a b hd
    have hkx : k < xs.length := by rw [hx]; simp
    have hky : k < ys.length := by rw [hy]; simp
    have e1 : xs.drop k = u :: xs.drop (k + 1) := by rw [List.drop_eq_getElem_cons hkx]; rw [List.getElem?_eq_getElem hkx] at hu; injection hu with hu; rw [hu]
    have e2 : ys.drop k = v :: ys.drop (k + 1) := by rw [List.drop_eq_getElem_cons hky]; rw [List.getElem?_eq_getElem hky] at hv'; injection hv' with hv'; rw [hv']
    have ih := run_eqFlat (d := d) xs ys fs ts (k + 1) hr (fun y hy => hk y (List.mem_cons_of_mem _ hy)) (by rw [hx, List.length_cons]; omega) (by rw [hy, List.length_cons]; omega)
      (fun i y hi => by obtain ⟨u, v, h1, h2, h3⟩ := hv (i + 1) y hi; exact ⟨u, v, by rw [← h1]; congr 1; omega, by rw [← h2]; congr 1; omega, h3⟩)
    simp only [Op.eqFields, n0', ne_eq, not_false_eq_true, if_true]
    rw [run_bind _ _ pu, run_bind _ _ pv, run_bind _ _ pe, e1, e2]
    simp only [eqAll]
    cases hb : veq u v with
    | false => rfl
    | true => simp only [Bool.not_true, Bool.false_eq_true, if_false, Bool.true_and]; exact ih
/-- The cells fit. -/
def fits (ts : List (TypeId × FK)) (cs : List Value) : Prop := cs.length = ts.length ∧ ∀ (i : Nat) (x : TypeId × FK), ts[i]? = some x → ∃ u, cs[i]? = some u ∧ x.2.ok u
theorem Flat.run {t : TypeId} {ts : List (TypeId × FK)} (h : Flat P t ts) {xs ys : List Value} (hx : fits ts xs) (hy : fits ts ys) :
    (Op.equalIn 10000 t (.agg xs.toArray) (.agg ys.toArray)).run P w = .ok (eqAll xs ys) w := by
  rw [show (10000 : Nat) = 9999 + 1 from rfl, run_equalIn_struct w 9999 _ _ _ h.und h.held]
  have := run_eqFlat (P := P) (w := w) (d := 9998) xs ys (P.fieldsOf t).toList ts 0 h.fields h.kinds (by rw [hx.1]; omega) (by rw [hy.1]; omega) (fun i x hi => by
    obtain ⟨u, h1, h2⟩ := hx.2 i x hi
    obtain ⟨v, h3, h4⟩ := hy.2 i x hi
    exact ⟨u, v, by rw [Nat.zero_add]; exact h1, by rw [Nat.zero_add]; exact h3, h2, h4⟩)
  simpa using this
variable {env : Env} {dst : Option Tmp} {ty : TypeId} {pos : String} {after : Array Edge} {guard : Option (Nat × Bool)}
theorem OpV.eqFlat {t u : TypeId} {ts : List (TypeId × FK)} (h : Flat P t ts) {x y : Operand} {xs ys : List Value} (hx : evO env x = some (.agg xs.toArray)) (hy : evO env y = some (.agg ys.toArray)) (h1 : fits ts xs) (h2 : fits ts ys) :
    OpV P env w ⟨dst, .binOp .eql t x y u, ty, pos, after, guard⟩ (.bool (eqAll xs ys)) := .of_run fun ρ hρ => by
  refine ⟨_, by simp only [execOp, hρ _ _ hx, hρ _ _ hy]; rfl, ?_⟩
  rw [run_bind _ _ (run_eqGuard_agg w .eql t x y _ _ h.guard), run_eql_struct, h.run h1 h2]; rfl
theorem OpV.neFlat {t u : TypeId} {ts : List (TypeId × FK)} (h : Flat P t ts) {x y : Operand} {xs ys : List Value} (hx : evO env x = some (.agg xs.toArray)) (hy : evO env y = some (.agg ys.toArray)) (h1 : fits ts xs) (h2 : fits ts ys) :
    OpV P env w ⟨dst, .binOp .neq t x y u, ty, pos, after, guard⟩ (.bool (!(eqAll xs ys))) := .of_run fun ρ hρ => by
  refine ⟨_, by simp only [execOp, hρ _ _ hx, hρ _ _ hy]; rfl, ?_⟩
  rw [run_bind _ _ (run_eqGuard_agg w .neq t x y _ _ h.guard), run_neq_struct, h.run h1 h2]; rfl
/-- What comes in. -/
theorem shp_flat {t : TypeId} {ts : List (TypeId × FK)} (h : Flat P t ts) {fuel : Nat} {cs : List Value} (hs : Shp P w fuel t cs) : cs.length = ts.length ∧ ∀ (i : Nat) (x : TypeId × FK), ts[i]? = some x → ∃ u, cs[i]? = some u ∧ x.2.wf u := by
  obtain ⟨hl, f, hs⟩ := hs.struct h.und
  rw [h.cells] at hl
  refine ⟨hl, fun i x hi => ?_⟩
  have hf := congrArg (·[i]?) h.fields
  simp only [List.getElem?_map, List.getElem?_zipIdx, hi, Option.map_some, Nat.zero_add] at hf
  obtain ⟨fl, hfl, he⟩ := Option.map_eq_some_iff.1 hf
  simp only [Prod.mk.injEq] at he
  obtain ⟨-, t0, o0⟩ := he
  have h0 := hs fl (List.mem_of_getElem? hfl)
  obtain ⟨hd, -, hc⟩ := h.kinds x (List.mem_of_getElem? hi)
  have hilt : i < ts.length := by
    rcases Nat.lt_or_ge i ts.length with h | h
    · exact h
    · rw [List.getElem?_eq_none h] at hi; simp at hi
  have hic : i < cs.length := by omega
  rw [t0, o0, hc, List.drop_eq_getElem_cons hic, List.take_succ_cons, List.take_zero] at h0
  refine ⟨cs[i], List.getElem?_eq_getElem hic, ?_⟩
  obtain ⟨ti, kd⟩ := x
  cases kd with
  | int kk => obtain ⟨n, h1, h2⟩ := h0.int hd; exact ⟨n, (List.cons.inj h1).1, h2⟩
  | bool => obtain ⟨b, h1⟩ := h0.bool hd; exact ⟨b, (List.cons.inj h1).1⟩
  | str => obtain ⟨s, h1, h2⟩ := h0.str hd; exact ⟨s, (List.cons.inj h1).1, h2⟩
end Go.Rn
