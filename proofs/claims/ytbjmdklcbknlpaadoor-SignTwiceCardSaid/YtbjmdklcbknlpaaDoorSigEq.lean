/- Two signatures are compared. -/
import Derived.Test.YtbjmdklcbknlpaaDoorRef11B
import Derived.Laws.StructEq
namespace Go.Rn
variable {P : Program} {w : World} {env : Env} {dst : Option Tmp} {ty : TypeId} {pos : String} {after : Array Edge} {guard : Option (Nat × Bool)}
/-- A struct of two integers. -/
structure TwoInts (P : Program) (t ti : TypeId) : Prop where
  und : P.underlying t = some (.struct (P.fieldsOf t))
  fields : (P.fieldsOf t).toList.map (fun f => ((f.name == "_"), f.type, f.offset)) = [(false, ti, 0), (false, ti, 1)]
  held : P.stoodInHeld t = false
  guard : P.eqGuardType P.depth t = false
  int : P.underlying ti = some (.int .i64)
  cells : cellsAgg P ti = some (1, false)
theorem TwoInts.run {t ti : TypeId} (h : TwoInts P t ti) (a b c d : Int) :
    (Op.equalIn 10000 t (.agg #[.int .i64 a, .int .i64 b]) (.agg #[.int .i64 c, .int .i64 d])).run P w = .ok (a == c && b == d) w := by
  rw [show (10000 : Nat) = 9999 + 1 from rfl, run_equalIn_struct w 9999 _ _ _ h.und h.held]
  have hf := h.fields
  generalize (P.fieldsOf t).toList = fs at hf
  obtain ⟨f0, f1, rfl⟩ : ∃ f0 f1, fs = [f0, f1] := by
    rcases fs with _ | ⟨f0, _ | ⟨f1, _ | ⟨f2, r⟩⟩⟩
    · simp at hf
    · simp at hf
    · exact ⟨f0, f1, rfl⟩
    · simp at hf
  simp only [List.map_cons, List.map_nil, List.cons.injEq, Prod.mk.injEq, and_true] at hf
  obtain ⟨⟨n0, t0, o0⟩, n1, t1, o1⟩ := hf
  have n0' : f0.name ≠ "_" := by simpa using n0
  have n1' : f1.name ≠ "_" := by simpa using n1
  have p : ∀ (off : Nat) (cs : Array Value) (v : Value), cs.toList[off]? = some v → (part ti cs off).run P w = .ok v w := fun off cs v hv => run_part h.cells cs off (by simpa using hv)
  have e : ∀ a b : Int, (Op.equalIn 9999 ti (.int .i64 a) (.int .i64 b)).run P w = .ok (a == b) w := fun a b => run_equalIn_int w 9998 ti .i64 .i64 a b h.int
  simp only [Op.eqFields, n0', n1', ne_eq, not_false_eq_true, if_true, t0, o0, t1, o1]
  rw [run_bind _ _ (p 0 _ (.int .i64 a) rfl), run_bind _ _ (p 0 _ (.int .i64 c) rfl), run_bind _ _ (e a c)]
  cases hac : (a == c) with
  | false => rfl
  | true =>
    simp only [Bool.not_true, Bool.false_eq_true, if_false]
    rw [run_bind _ _ (p 1 _ (.int .i64 b) rfl), run_bind _ _ (p 1 _ (.int .i64 d) rfl), run_bind _ _ (e b d)]
    cases hbd : (b == d) <;> rfl
theorem OpV.eqTwo {t ti u : TypeId} (h : TwoInts P t ti) {x y : Operand} {a b c d : Int} (hx : evO env x = some (.agg #[.int .i64 a, .int .i64 b])) (hy : evO env y = some (.agg #[.int .i64 c, .int .i64 d])) :
    OpV P env w ⟨dst, .binOp .eql t x y u, ty, pos, after, guard⟩ (.bool (a == c && b == d)) := .of_run fun ρ hρ => by
  refine ⟨_, by simp only [execOp, hρ _ _ hx, hρ _ _ hy]; rfl, ?_⟩
  rw [run_bind _ _ (run_eqGuard_agg w .eql t x y _ _ h.guard), run_eql_struct, h.run]; rfl
theorem OpV.neTwo {t ti u : TypeId} (h : TwoInts P t ti) {x y : Operand} {a b c d : Int} (hx : evO env x = some (.agg #[.int .i64 a, .int .i64 b])) (hy : evO env y = some (.agg #[.int .i64 c, .int .i64 d])) :
    OpV P env w ⟨dst, .binOp .neq t x y u, ty, pos, after, guard⟩ (.bool (!(a == c && b == d))) := .of_run fun ρ hρ => by
  refine ⟨_, by simp only [execOp, hρ _ _ hx, hρ _ _ hy]; rfl, ?_⟩
  rw [run_bind _ _ (run_eqGuard_agg w .neq t x y _ _ h.guard), run_neq_struct, h.run]; rfl
end Go.Rn
namespace Go.Sg
open Go.Rn Go.Proofs
theorem sigTwo : TwoInts Tryd.prog 34 3 := ⟨by kernel_rfl, by kernel_rfl, by kernel_rfl, by kernel_rfl, by kernel_rfl, by kernel_rfl⟩
end Go.Sg
