/- Operations on memory: places, slices, copies, bytes and strings, appending. -/
import Derived.Test.YtgccoipbcbccnaaOps
import Derived.Laws.AppendOwn
import Derived.Laws.MakeOwn
import Derived.Laws.BytesArg
set_option linter.unusedSimpArgs false
set_option linter.unusedVariables false
set_option linter.unusedSectionVars false
namespace Go.Rn
open Go.RowKit

variable {P : Program} {w : World} {env : Env} {dst : Option Tmp} {ty : TypeId} {pos : String} {after : Array Edge} {guard : Option (Nat × Bool)}

theorem OpV.of_run {op : Op} {v : Value} (h : ∀ ρ : Operand → Value, (∀ x v, evO env x = some v → ρ x = v) → ∃ s : Sem Value, execOp ρ ⟨dst, op, ty, pos, after, guard⟩ = (do pure (.value (← s)) : Sem Next) ∧ s.run P w = .ok v w) :
    OpV P env w ⟨dst, op, ty, pos, after, guard⟩ v := fun ρ hρ => by
  obtain ⟨s, hs, hr⟩ := h ρ hρ
  rw [hs, run_bind _ _ hr]; rfl

theorem OpE.of_run {op : Op} {v : Value} {w' : World} {R : Value → World → Prop} {X : List PanicEntry → World → Prop} (hR : R v w')
    (h : ∀ ρ : Operand → Value, (∀ x v, evO env x = some v → ρ x = v) → ∃ s : Sem Value, execOp ρ ⟨dst, op, ty, pos, after, guard⟩ = (do pure (.value (← s)) : Sem Next) ∧ s.run P w = .ok v w') :
    OpE P env w ⟨dst, op, ty, pos, after, guard⟩ R X := fun ρ hρ => by
  obtain ⟨s, hs, hr⟩ := h ρ hρ
  exact ExecE.of_value (w' := w') (v := v) (by rw [hs, run_bind _ _ hr]; rfl) hR

theorem OpV.load {t : TypeId} {x : Operand} {b o : Nat} {v : Value} (hx : evO env x = some (.pointer (some ⟨b, o, none⟩))) (hl : Loads P w t b o v) :
    OpV P env w ⟨dst, .load t x, ty, pos, after, guard⟩ v := .of_run fun ρ hρ => by
  refine ⟨_, by simp only [execOp, hρ _ _ hx]; rfl, ?_⟩
  unfold Instr.loadAt
  rw [run_bind _ _ (show (Instr.sureAddr (.pointer (some ⟨b, o, none⟩))).run P w = .ok ⟨b, o, none⟩ w from rfl)]
  exact hl

theorem OpV.indexS {T : Tab} (hT : T.Ok P) {t e : TypeId} {sz : Nat} {ag : Bool} {s bb : Nat} {z : List Value} {a u : Bool} {x ix : Operand} {b o len cap : Nat} {kd : IntKind} {i : Int} (j : Nat)
    (ht : T.get t = some ⟨.slc sz ag e, s, bb, z, a, u⟩) (hx : evO env x = some (.slice (some ⟨b, o, none⟩) len cap)) (hi : evO env ix = some (.int kd i)) (hj : i = (j : Int)) (hlt : j < len) :
    OpV P env w ⟨dst, .indexAddr t x ix, ty, pos, after, guard⟩ (.pointer (some ⟨b, o + j * sz, none⟩)) := .of_run fun ρ hρ => by
  refine ⟨_, by simp only [execOp, hρ _ _ hx, hρ _ _ hi]; rfl, ?_⟩
  subst hj
  obtain ⟨hu, hc⟩ := TD.of_slc (TI.tdof (hT.get _ _ ht)).symm
  obtain ⟨i, dd, hi, hsz, _, _⟩ := cellsAgg_inv hc
  simp [Instr.indexAt, asIntOf, bind, Sem.bind, Sem.run, underlying, program, hu, Pure.pure, hlt, sizeOf, typeInfo, hi, hsz, add_none]

theorem OpV.indexA {T : Tab} (hT : T.Ok P) {t e : TypeId} {m sz : Nat} {ag : Bool} {s bb : Nat} {z : List Value} {a u : Bool} {x ix : Operand} {b o : Nat} {kd : IntKind} {i : Int} (j : Nat)
    (ht : T.get t = some ⟨.arr m sz ag e, s, bb, z, a, u⟩) (hx : evO env x = some (.pointer (some ⟨b, o, none⟩))) (hi : evO env ix = some (.int kd i)) (hj : i = (j : Int)) (hlt : j < m) :
    OpV P env w ⟨dst, .indexAddr t x ix, ty, pos, after, guard⟩ (.pointer (some ⟨b, o + j * sz, none⟩)) := .of_run fun ρ hρ => by
  refine ⟨_, by simp only [execOp, hρ _ _ hx, hρ _ _ hi]; rfl, ?_⟩
  subst hj
  obtain ⟨hu, hc⟩ := TD.of_arr (TI.tdof (hT.get _ _ ht)).symm
  obtain ⟨i, dd, hi, hsz, _, _⟩ := cellsAgg_inv hc
  simp [Instr.indexAt, Instr.sureAddr, asIntOf, bind, Sem.bind, Sem.run, underlying, program, hu, Pure.pure, hlt, sizeOf, typeInfo, hi, hsz, add_none]

/-- An array's element, of one cell. -/
theorem OpV.indexV {T : Tab} (hT : T.Ok P) {t e : TypeId} {m sz : Nat} {ag : Bool} {s bb : Nat} {z : List Value} {a u : Bool} {x ix : Operand} {cs : Array Value} {kd : IntKind} {i : Int} {v : Value} (j : Nat)
    (ht : T.get t = some ⟨.arr m sz ag e, s, bb, z, a, u⟩) (hx : evO env x = some (.agg cs)) (hi : evO env ix = some (.int kd i)) (hj : i = (j : Int)) (hlt : j < m)
    (hv : cond ag (some (Value.agg ((cs.toList.drop (j * sz)).take sz).toArray)) (cs.toList[j * sz]?) = some v) :
    OpV P env w ⟨dst, .index t x ix, ty, pos, after, guard⟩ v := .of_run fun ρ hρ => by
  refine ⟨_, by simp only [execOp, hρ _ _ hx, hρ _ _ hi]; rfl, ?_⟩
  subst hj
  obtain ⟨hu, hc⟩ := TD.of_arr (TI.tdof (hT.get _ _ ht)).symm
  obtain ⟨i, dd, hi, hsz, _, _⟩ := cellsAgg_inv hc
  unfold Instr.index
  rw [run_bind _ _ (show (asIntOf (.int kd (j : Int))).run P w = .ok (kd, (j : Int)) w from rfl)]
  simp only
  rw [run_bind _ _ (run_underlying hu)]
  simp only
  rw [if_pos (by omega), run_bind _ _ (run_sizeOf hi), hsz]
  exact run_part hc cs (j * sz) hv

/-! ### Bounds -/
inductive Bnd (env : Env) : Option Operand → Nat → Nat → Prop where
  | none {n : Nat} : Bnd env none n n
  | some {x : Operand} {k : IntKind} {i : Int} {n m : Nat} (h : evO env x = some (.int k i)) (hi : i = (m : Int)) : Bnd env (some x) n m

theorem run_sliceBound {k : IntKind} {m y : Nat} (h : m ≤ y) (code : BoundsCode) : (Instr.sliceBound (.int k (m : Int)) y code).run P w = .ok m w := by
  unfold Instr.sliceBound
  rw [run_bind _ _ (show (asIntOf (.int k (m : Int))).run P w = .ok (k, (m : Int)) w from rfl)]
  simp only
  rw [if_pos (by omega)]
  rfl

theorem run_sliceBounds {ρ : Operand → Value} (hρ : ∀ x v, evO env x = some v → ρ x = v) {low high mx : Option Operand} {len cap lo hi m : Nat} (b : Bool) (hl : Bnd env low 0 lo) (hh : Bnd env high len hi) (hm : Bnd env mx cap m)
    (hq : mx = none ∨ high ≠ none) (h1 : lo ≤ hi) (h2 : hi ≤ m) (h3 : m ≤ cap) :
    (Instr.sliceBounds b len cap (low.map ρ) (high.map ρ) (mx.map ρ)).run P w = .ok (lo, hi, m) w := by
  have hb : ∀ {k : IntKind} {m y : Nat} (h : m ≤ y) (code : BoundsCode), (Instr.sliceBound (.int k (m : Int)) y code).run P w = .ok m w := fun h code => run_sliceBound h code
  unfold Instr.sliceBounds
  cases hm with
  | none =>
    cases hh with
    | none =>
      cases hl with
      | none => rfl
      | some g gi => subst gi; simp [hρ _ _ g, Sem.run_bind, hb h1, Result.andThen, Pure.pure]
    | some h hi =>
      subst hi
      cases hl with
      | none => simp [hρ _ _ h, Sem.run_bind, hb h2, Result.andThen, Pure.pure]
      | some g gi => subst gi; simp [hρ _ _ g, hρ _ _ h, Sem.run_bind, hb h1, hb h2, Result.andThen, Pure.pure]
  | some f fi =>
    subst fi
    cases hh with
    | none => exact absurd rfl (hq.resolve_left (by simp))
    | some h hi =>
      subst hi
      cases hl with
      | none => simp [hρ _ _ f, hρ _ _ h, Sem.run_bind, hb h2, hb h3, Result.andThen, Pure.pure]
      | some g gi => subst gi; simp [hρ _ _ f, hρ _ _ g, hρ _ _ h, Sem.run_bind, hb h1, hb h2, hb h3, Result.andThen, Pure.pure]

/-- Where a part of a slice begins. -/
def offOf (o lo m sz : Nat) : Nat := if m = lo then o else o + lo * sz
theorem offOf_zero (o m sz : Nat) : offOf o 0 m sz = o := by unfold offOf; split <;> simp
theorem offOf_lt {o lo m sz : Nat} (h : lo < m) : offOf o lo m sz = o + lo * sz := by unfold offOf; rw [if_neg (by omega)]

theorem OpV.sliceS {T : Tab} (hT : T.Ok P) {t e : TypeId} {sz : Nat} {ag : Bool} {s bb : Nat} {z : List Value} {a u : Bool} {x : Operand} {low high mx : Option Operand} {b o len cap lo hi m : Nat}
    (ht : T.get t = some ⟨.slc sz ag e, s, bb, z, a, u⟩) (hx : evO env x = some (.slice (some ⟨b, o, none⟩) len cap)) (hl : Bnd env low 0 lo) (hh : Bnd env high len hi) (hm : Bnd env mx cap m)
    (hq : mx = none ∨ high ≠ none) (h1 : lo ≤ hi) (h2 : hi ≤ m) (h3 : m ≤ cap) :
    OpV P env w ⟨dst, .slice t x low high mx, ty, pos, after, guard⟩ (.slice (some ⟨b, offOf o lo m sz, none⟩) (hi - lo) (m - lo)) := .of_run fun ρ hρ => by
  refine ⟨_, by simp only [execOp, hρ _ _ hx]; rfl, ?_⟩
  obtain ⟨hu, hc⟩ := TD.of_slc (TI.tdof (hT.get _ _ ht)).symm
  obtain ⟨i, dd, hi, hsz, _, _⟩ := cellsAgg_inv hc
  unfold Instr.sliceAt
  rw [run_bind _ _ (run_underlying hu)]
  simp only
  unfold Instr.slice
  rw [run_bind _ _ (run_underlying hu)]
  simp only
  rw [run_bind _ _ (run_sliceBounds hρ true hl hh hm hq h1 h2 h3)]
  simp only
  rw [run_bind _ _ (run_sizeOf hi), hsz]
  unfold offOf
  by_cases h : m = lo
  · rw [if_pos h, if_pos h]; rfl
  · rw [if_neg h, if_neg h]; simp only [Option.map_some, add_none]; rfl

theorem OpV.sliceA {T : Tab} (hT : T.Ok P) {t e : TypeId} {N sz : Nat} {ag : Bool} {s bb : Nat} {z : List Value} {a u : Bool} {x : Operand} {low high mx : Option Operand} {b o lo hi m : Nat}
    (ht : T.get t = some ⟨.arr N sz ag e, s, bb, z, a, u⟩) (hx : evO env x = some (.pointer (some ⟨b, o, none⟩))) (hl : Bnd env low 0 lo) (hh : Bnd env high N hi) (hm : Bnd env mx N m)
    (hq : mx = none ∨ high ≠ none) (h1 : lo ≤ hi) (h2 : hi ≤ m) (h3 : m ≤ N) :
    OpV P env w ⟨dst, .slice t x low high mx, ty, pos, after, guard⟩ (.slice (some ⟨b, offOf o lo m sz, none⟩) (hi - lo) (m - lo)) := .of_run fun ρ hρ => by
  refine ⟨_, by simp only [execOp, hρ _ _ hx]; rfl, ?_⟩
  obtain ⟨hu, hc⟩ := TD.of_arr (TI.tdof (hT.get _ _ ht)).symm
  obtain ⟨i, dd, hi, hsz, _, _⟩ := cellsAgg_inv hc
  unfold Instr.sliceAt
  rw [run_bind _ _ (run_underlying hu)]
  simp only
  rw [run_bind _ _ (show (Instr.sureAddr (.pointer (some ⟨b, o, none⟩))).run P w = .ok ⟨b, o, none⟩ w from rfl), run_bind _ _ (run_sliceBounds hρ false hl hh hm hq h1 h2 h3)]
  simp only
  rw [run_bind _ _ (run_sizeOf hi), hsz]
  unfold offOf
  by_cases h : m = lo
  · rw [if_pos h, if_pos h]; rfl
  · rw [if_neg h, if_neg h]; simp only [add_none]; rfl

theorem OpV.sliceNil {T : Tab} (hT : T.Ok P) {t e : TypeId} {sz : Nat} {ag : Bool} {s bb : Nat} {z : List Value} {a u : Bool} {x : Operand} {low high : Option Operand} {d : Option Addr}
    (ht : T.get t = some ⟨.slc sz ag e, s, bb, z, a, u⟩) (hx : evO env x = some (.slice d 0 0)) (hl : Bnd env low 0 0) (hh : Bnd env high 0 0) :
    OpV P env w ⟨dst, .slice t x low high none, ty, pos, after, guard⟩ (.slice d 0 0) := .of_run fun ρ hρ => by
  refine ⟨_, by simp only [execOp, hρ _ _ hx]; rfl, ?_⟩
  obtain ⟨hu, hc⟩ := TD.of_slc (TI.tdof (hT.get _ _ ht)).symm
  obtain ⟨i, dd, hi, hsz, _, _⟩ := cellsAgg_inv hc
  unfold Instr.sliceAt
  rw [run_bind _ _ (run_underlying hu)]
  simp only
  unfold Instr.slice
  rw [run_bind _ _ (run_underlying hu)]
  simp only
  rw [run_bind _ _ (run_sliceBounds (mx := none) (m := 0) hρ true hl hh .none (.inl rfl) (Nat.le_refl _) (Nat.le_refl _) (Nat.le_refl _))]
  simp only
  rw [run_bind _ _ (run_sizeOf hi), hsz]
  rfl

theorem OpV.sliceStr {T : Tab} (hT : T.Ok P) {t : TypeId} {s bb : Nat} {z : List Value} {a u : Bool} {x : Operand} {low high : Option Operand} {str : ByteArray} {lo hi : Nat}
    (ht : T.get t = some ⟨.str, s, bb, z, a, u⟩) (hx : evO env x = some (.string str)) (hl : Bnd env low 0 lo) (hh : Bnd env high str.size hi) (h1 : lo ≤ hi) (h2 : hi ≤ str.size) :
    OpV P env w ⟨dst, .slice t x low high none, ty, pos, after, guard⟩ (.string (str.extract lo hi)) := .of_run fun ρ hρ => by
  refine ⟨_, by simp only [execOp, hρ _ _ hx]; rfl, ?_⟩
  have hu := TD.of_str (TI.tdof (hT.get _ _ ht)).symm
  unfold Instr.sliceAt
  rw [run_bind _ _ (run_underlying hu)]
  simp only
  unfold Instr.slice
  rw [run_bind _ _ (run_underlying hu)]
  simp only [Option.map_none, Option.isSome_none, Bool.false_eq_true, if_false]
  refine Eq.trans (run_bind _ _ (run_sliceBounds (mx := none) (m := str.size) hρ false hl hh .none (.inl rfl) h1 h2 (Nat.le_refl _))) ?_
  rfl

/-- The same, from the beginning; of elements of one cell. -/
theorem OpV.slice0 {T : Tab} (hT : T.Ok P) {t e : TypeId} {sz : Nat} {ag : Bool} {s bb : Nat} {z : List Value} {a u : Bool} {x : Operand} {low high : Option Operand} {b o len cap hi : Nat}
    (ht : T.get t = some ⟨.slc sz ag e, s, bb, z, a, u⟩) (hx : evO env x = some (.slice (some ⟨b, o, none⟩) len cap)) (hl : Bnd env low 0 0) (hh : Bnd env high len hi) (h2 : hi ≤ cap) :
    OpV P env w ⟨dst, .slice t x low high none, ty, pos, after, guard⟩ (.slice (some ⟨b, o, none⟩) hi cap) := by
  have := OpV.sliceS (P := P) (w := w) (dst := dst) (ty := ty) (pos := pos) (after := after) (guard := guard) hT ht hx hl hh (.none (n := cap)) (.inl rfl) (Nat.zero_le _) h2 (Nat.le_refl _)
  rwa [offOf_zero, Nat.sub_zero, Nat.sub_zero] at this
theorem OpV.slice1 {T : Tab} (hT : T.Ok P) {t e : TypeId} {ag : Bool} {s bb : Nat} {z : List Value} {a u : Bool} {x : Operand} {low high : Option Operand} {b o len cap lo hi : Nat}
    (ht : T.get t = some ⟨.slc 1 ag e, s, bb, z, a, u⟩) (hx : evO env x = some (.slice (some ⟨b, o, none⟩) len cap)) (hl : Bnd env low 0 lo) (hh : Bnd env high len hi) (h1 : lo ≤ hi) (h2 : hi ≤ cap) (h3 : lo < cap) :
    OpV P env w ⟨dst, .slice t x low high none, ty, pos, after, guard⟩ (.slice (some ⟨b, o + lo, none⟩) (hi - lo) (cap - lo)) := by
  have := OpV.sliceS (P := P) (w := w) (dst := dst) (ty := ty) (pos := pos) (after := after) (guard := guard) hT ht hx hl hh (.none (n := cap)) (.inl rfl) h1 h2 (Nat.le_refl _)
  rwa [offOf_lt h3, Nat.mul_one] at this
theorem OpV.sliceA1 {T : Tab} (hT : T.Ok P) {t e : TypeId} {N : Nat} {ag : Bool} {s bb : Nat} {z : List Value} {a u : Bool} {x : Operand} {low high : Option Operand} {b o lo hi : Nat}
    (ht : T.get t = some ⟨.arr N 1 ag e, s, bb, z, a, u⟩) (hx : evO env x = some (.pointer (some ⟨b, o, none⟩))) (hl : Bnd env low 0 lo) (hh : Bnd env high N hi) (h1 : lo ≤ hi) (h2 : hi ≤ N) (h3 : lo < N) :
    OpV P env w ⟨dst, .slice t x low high none, ty, pos, after, guard⟩ (.slice (some ⟨b, o + lo, none⟩) (hi - lo) (N - lo)) := by
  have := OpV.sliceA (P := P) (w := w) (dst := dst) (ty := ty) (pos := pos) (after := after) (guard := guard) hT ht hx hl hh (.none (n := N)) (.inl rfl) h1 h2 (Nat.le_refl _)
  rwa [offOf_lt h3, Nat.mul_one] at this
theorem OpV.sliceA0 {T : Tab} (hT : T.Ok P) {t e : TypeId} {N sz : Nat} {ag : Bool} {s bb : Nat} {z : List Value} {a u : Bool} {x : Operand} {low high : Option Operand} {b o hi : Nat}
    (ht : T.get t = some ⟨.arr N sz ag e, s, bb, z, a, u⟩) (hx : evO env x = some (.pointer (some ⟨b, o, none⟩))) (hl : Bnd env low 0 0) (hh : Bnd env high N hi) (h2 : hi ≤ N) :
    OpV P env w ⟨dst, .slice t x low high none, ty, pos, after, guard⟩ (.slice (some ⟨b, o, none⟩) hi N) := by
  have := OpV.sliceA (P := P) (w := w) (dst := dst) (ty := ty) (pos := pos) (after := after) (guard := guard) hT ht hx hl hh (.none (n := N)) (.inl rfl) (Nat.zero_le _) h2 (Nat.le_refl _)
  rwa [offOf_zero, Nat.sub_zero, Nat.sub_zero] at this
theorem OpV.indexS1 {T : Tab} (hT : T.Ok P) {t e : TypeId} {ag : Bool} {s bb : Nat} {z : List Value} {a u : Bool} {x ix : Operand} {b o len cap : Nat} {kd : IntKind} {i : Int} (j : Nat)
    (ht : T.get t = some ⟨.slc 1 ag e, s, bb, z, a, u⟩) (hx : evO env x = some (.slice (some ⟨b, o, none⟩) len cap)) (hi : evO env ix = some (.int kd i)) (hj : i = (j : Int)) (hlt : j < len) :
    OpV P env w ⟨dst, .indexAddr t x ix, ty, pos, after, guard⟩ (.pointer (some ⟨b, o + j, none⟩)) := by
  have := OpV.indexS (P := P) (w := w) (dst := dst) (ty := ty) (pos := pos) (after := after) (guard := guard) hT j ht hx hi hj hlt
  rwa [Nat.mul_one] at this
theorem OpV.indexA1 {T : Tab} (hT : T.Ok P) {t e : TypeId} {m : Nat} {ag : Bool} {s bb : Nat} {z : List Value} {a u : Bool} {x ix : Operand} {b o : Nat} {kd : IntKind} {i : Int} (j : Nat)
    (ht : T.get t = some ⟨.arr m 1 ag e, s, bb, z, a, u⟩) (hx : evO env x = some (.pointer (some ⟨b, o, none⟩))) (hi : evO env ix = some (.int kd i)) (hj : i = (j : Int)) (hlt : j < m) :
    OpV P env w ⟨dst, .indexAddr t x ix, ty, pos, after, guard⟩ (.pointer (some ⟨b, o + j, none⟩)) := by
  have := OpV.indexA (P := P) (w := w) (dst := dst) (ty := ty) (pos := pos) (after := after) (guard := guard) hT j ht hx hi hj hlt
  rwa [Nat.mul_one] at this
/-- ^x -/
theorem OpV.compl {t : TypeId} {x : Operand} {k : IntKind} {n m : Int} (hx : evO env x = some (.int k n)) (hm : k.wrap ((BitVec.ofInt k.bits (if k.signed then -1 else k.max) ^^^ BitVec.ofInt k.bits n).toNat : Int) = m) :
    OpV P env w ⟨dst, .unOp .xor t x, ty, pos, after, guard⟩ (.int k m) := .of_run fun ρ hρ => by
  refine ⟨_, by simp only [execOp, hρ _ _ hx]; rfl, ?_⟩
  subst hm; rfl
/-- One cell is loaded. -/
theorem OpV.load1 {T : Tab} (hT : T.Ok P) {t : TypeId} {i : TI} {x : Operand} {b o : Nat} {v : Value} (ht : T.get t = some i) (ha : i.agg = false) (hx : evO env x = some (.pointer (some ⟨b, o, none⟩)))
    (h : w.cell? ⟨b, o, none⟩ = some v) : OpV P env w ⟨dst, .load t x, ty, pos, after, guard⟩ v := .load hx (.scalar hT ht ha h)
/-- A variable of several cells is loaded. -/
theorem OpV.loadN {T : Tab} (hT : T.Ok P) {t : TypeId} {i : TI} {x : Operand} {b o : Nat} {cs : List Value} (ht : T.get t = some i) (ha : i.agg = true) (hx : evO env x = some (.pointer (some ⟨b, o, none⟩)))
    (hl : cs.length = i.size) (h : Row w b o cs) : OpV P env w ⟨dst, .load t x, ty, pos, after, guard⟩ (.agg cs.toArray) := .load hx (.agg hT ht ha hl h)

/-! ### Calls -/
theorem OpE.callV {f : Operand} {fv : Value} {args : Array Operand} {ts : Array TypeId} {vs : List Value} {R : Value → World → Prop} {X : List PanicEntry → World → Prop} (hf : evO env f = some fv) (ha : evL env args.toList = some vs)
    (hc : FnV P fv vs w R X) : OpE P env w ⟨dst, .call ⟨.value f, args, ts⟩, ty, pos, after, guard⟩ R X := fun ρ hρ => by
  have e : execOp ρ ⟨dst, .call ⟨.value f, args, ts⟩, ty, pos, after, guard⟩ = (do let d ← Deferred.ofValue fv vs.toArray; invoke d.target d.args) := by
    simp only [execOp, resolve, hρ _ _ hf, evL_mapA hρ ha]
  rw [e]; exact hc
theorem OpE.call {g : FuncId} {args : Array Operand} {ts : Array TypeId} {vs : List Value} {R : Value → World → Prop} {X : List PanicEntry → World → Prop} (ha : evL env args.toList = some vs)
    (hc : RetsX P g vs w R X) : OpE P env w ⟨dst, .call ⟨.value (.func g), args, ts⟩, ty, pos, after, guard⟩ R X :=
  .callV (fv := .func (.func g) #[] #[]) rfl ha (RetsX.v (fi := []) (ca := []) (by simpa using hc))
theorem OpE.keep {o : Oper} {v : Value} (h : OpE P env w o (fun u w' => u = v ∧ w = w') fun _ _ => False) : OpE P env w o (fun u w' => u = v ∧ Ext w w') fun _ _ => False :=
  h.mono (by rintro _ _ ⟨rfl, rfl⟩; exact ⟨rfl, ExtB.refl _ _⟩) fun _ _ h => h

/-! ### Windows -/
theorem Row.window {b o k : Nat} {cs ds : List Value} (h : Row w b o cs) (hs : ∀ i v, ds[i]? = some v → cs[k + i]? = some v) : Row w b (o + k) ds := fun i v hv => by
  rw [Nat.add_assoc]; exact h _ _ (hs i v hv)
theorem Row.drop {b o : Nat} {cs : List Value} (h : Row w b o cs) (k : Nat) : Row w b (o + k) (cs.drop k) := h.window fun i v hv => by rwa [List.getElem?_drop] at hv
theorem Row.take {b o : Nat} {cs : List Value} (h : Row w b o cs) (k : Nat) : Row w b o (cs.take k) := fun i v hv => h i v (by
  rw [List.getElem?_take] at hv; split at hv
  · exact hv
  · simp at hv)
theorem Blk.rowAt {b : Nat} {cs : List Value} {t : TypeId} (h : Blk w b cs t) (k : Nat) {ds : List Value} (hs : ∀ i v, ds[i]? = some v → cs[k + i]? = some v) : Row w b k ds := by
  have := (h.row).window hs; rwa [Nat.zero_add] at this

/-! ### Copies -/
theorem run_firstCells {sz m : Nat} {b o len cap : Nat} {cs : List Value} (hr : Row w b o cs) (hl : cs.length = m * sz) :
    (Builtin.firstCells sz m (.slice (some ⟨b, o, none⟩) len cap)).run P w = .ok cs.toArray w := by
  unfold Builtin.firstCells
  rw [← hl]; exact run_loadCells hr

theorem setAt_nil (cs : List Value) (o : Nat) : setAt cs o [] = cs := rfl

theorem OpE.copy {T : Tab} (hT : T.Ok P) {t t' e : TypeId} {sz : Nat} {ag : Bool} {s bb : Nat} {z : List Value} {a u : Bool} {x y : Operand} {b o len cap b' o' len' cap' : Nat} {cs vs : List Value} {bt : TypeId}
    (ht : T.get t = some ⟨.slc sz ag e, s, bb, z, a, u⟩) (hx : evO env x = some (.slice (some ⟨b, o, none⟩) len cap)) (hy : evO env y = some (.slice (some ⟨b', o', none⟩) len' cap'))
    (hb : Blk w b cs bt) (hr : Row w b' o' vs) (hl : vs.length = min len' len * sz) (hfit : o + vs.length ≤ cs.length) (hp : vs.all plainV = true) :
    OpE P env w ⟨dst, .call ⟨.builtin .copy, #[x, y], #[t, t']⟩, ty, pos, after, guard⟩ (fun v w' => v = .int .i64 (min len' len : Nat) ∧ Turned w w' b (.cells (setAt cs o vs).toArray bt (0, 0))) fun _ _ => False := by
  refine .of_run (w' := World.setObj w b (.cells (setAt cs o vs).toArray bt (0, 0))) (v := .int .i64 (min len' len : Nat)) ⟨rfl, turned_set w hb.lt _⟩ fun ρ hρ => ?_
  refine ⟨Builtin.copy_ #[t, t'] ty #[.slice (some ⟨b, o, none⟩) len cap, .slice (some ⟨b', o', none⟩) len' cap'], by simp only [execOp, resolve, List.map_toArray, List.map_cons, List.map_nil, hρ _ _ hx, hρ _ _ hy]; rfl, ?_⟩
  obtain ⟨hu, hc⟩ := TD.of_slc (TI.tdof (hT.get _ _ ht)).symm
  obtain ⟨i, dd, hi, hsz, _, _⟩ := cellsAgg_inv hc
  unfold Builtin.copy_
  simp only [List.getElem?_toArray, List.getElem?_cons_zero, List.getElem?_cons_succ]
  rw [run_bind _ _ (run_underlying hu)]
  simp only
  rw [run_bind _ _ (show (Builtin.lenOf (.slice (some ⟨b', o', none⟩) len' cap')).run P w = .ok len' w from rfl), run_bind _ _ (run_sizeOf hi), hsz]
  rw [run_bind _ _ (run_firstCells (m := Nat.min len' len) hr hl)]
  have hst := run_storeCells (P := P) vs 0 cs hb (by omega) (List.all_eq_true.1 hp)
  rw [Nat.add_zero] at hst
  refine Eq.trans (run_bind _ _ hst) rfl

/-- Nothing is copied. -/
theorem OpE.copy0 {T : Tab} (hT : T.Ok P) {t t' e : TypeId} {sz : Nat} {ag : Bool} {s bb : Nat} {z : List Value} {a u : Bool} {x y : Operand} {d d' : Option Addr} {len cap len' cap' : Nat}
    (ht : T.get t = some ⟨.slc sz ag e, s, bb, z, a, u⟩) (hx : evO env x = some (.slice d len cap)) (hy : evO env y = some (.slice d' len' cap')) (h0 : min len' len = 0) :
    OpE P env w ⟨dst, .call ⟨.builtin .copy, #[x, y], #[t, t']⟩, ty, pos, after, guard⟩ (fun v w' => v = .int .i64 0 ∧ w = w') fun _ _ => False := by
  refine .of_run (w' := w) (v := .int .i64 0) ⟨rfl, rfl⟩ fun ρ hρ => ?_
  refine ⟨Builtin.copy_ #[t, t'] ty #[.slice d len cap, .slice d' len' cap'], by simp only [execOp, resolve, List.map_toArray, List.map_cons, List.map_nil, hρ _ _ hx, hρ _ _ hy]; rfl, ?_⟩
  obtain ⟨hu, hc⟩ := TD.of_slc (TI.tdof (hT.get _ _ ht)).symm
  obtain ⟨i, dd, hi, hsz, _, _⟩ := cellsAgg_inv hc
  unfold Builtin.copy_
  simp only [List.getElem?_toArray, List.getElem?_cons_zero, List.getElem?_cons_succ]
  rw [run_bind _ _ (run_underlying hu)]
  simp only
  rw [run_bind _ _ (show (Builtin.lenOf (.slice d' len' cap')).run P w = .ok len' w from rfl), run_bind _ _ (run_sizeOf hi), hsz]
  have h0' : Nat.min len' len = 0 := h0
  rw [h0']
  have hf : (Builtin.firstCells sz 0 (.slice d' len' cap')).run P w = .ok #[] w := by
    cases d' <;> simp [Builtin.firstCells, loadCells, loadCellsFrom, Pure.pure]
  rw [run_bind _ _ hf]
  cases d <;> rfl

/-! ### Bytes and strings -/
def bytesV (l : List UInt8) : List Value := l.map fun b => .int .u8 (b.toNat : Int)
def strOf (l : List UInt8) : ByteArray := ⟨l.toArray⟩
theorem bytesV_length (l : List UInt8) : (bytesV l).length = l.length := by simp [bytesV]
theorem strOf_size (l : List UInt8) : (strOf l).size = l.length := rfl
theorem bytesV_plain (l : List UInt8) : (bytesV l).all plainV = true := by simp [bytesV, plainV]

theorem OpV.b2s {T : Tab} (hT : T.Ok P) {t t' e : TypeId} {ag : Bool} {s bb s' bb' s2 bb2 : Nat} {z z' z2 : List Value} {a u a' u' a2 u2 : Bool} {x : Operand} {b o len cap : Nat} {l : List UInt8}
    (ht : T.get t = some ⟨.slc 1 ag e, s, bb, z, a, u⟩) (ht' : T.get t' = some ⟨.str, s', bb', z', a', u'⟩) (he : T.get e = some ⟨.int .u8, s2, bb2, z2, a2, u2⟩)
    (hx : evO env x = some (.slice (some ⟨b, o, none⟩) len cap)) (hr : Row w b o (bytesV l)) (hl : l.length = len) :
    OpV P env w ⟨dst, .convert t t' x, ty, pos, after, guard⟩ (.string (strOf l)) := .of_run fun ρ hρ => by
  refine ⟨_, by simp only [execOp, hρ _ _ hx]; rfl, ?_⟩
  obtain ⟨hu, -⟩ := TD.of_slc (TI.tdof (hT.get _ _ ht)).symm
  have hu' := TD.of_str (TI.tdof (hT.get _ _ ht')).symm
  have hue := TD.of_int (TI.tdof (hT.get _ _ he)).symm
  have := run_convert_bytes_arg (P := P) (w := w) t e hu hue b o len cap (l.map fun b => (b.toNat : Int)) (by simpa using hl) (fun i hi => by
    have hi' : i < l.length := by omega
    refine hr i _ ?_
    simp [bytesV, List.getElem?_eq_getElem hi', List.getD_eq_getElem?_getD]) t' hu'
  rw [this]
  congr 2
  unfold strOfNums strOf
  congr 2
  rw [List.map_map]
  conv => rhs; rw [← List.map_id l]
  congr 1
  funext b
  simp

theorem OpV.b2sNil {T : Tab} (hT : T.Ok P) {t t' e : TypeId} {ag : Bool} {s bb s' bb' s2 bb2 : Nat} {z z' z2 : List Value} {a u a' u' a2 u2 : Bool} {x : Operand} {len cap : Nat}
    (ht : T.get t = some ⟨.slc 1 ag e, s, bb, z, a, u⟩) (ht' : T.get t' = some ⟨.str, s', bb', z', a', u'⟩) (he : T.get e = some ⟨.int .u8, s2, bb2, z2, a2, u2⟩)
    (hx : evO env x = some (.slice none len cap)) :
    OpV P env w ⟨dst, .convert t t' x, ty, pos, after, guard⟩ (.string (strOf [])) := .of_run fun ρ hρ => by
  refine ⟨_, by simp only [execOp, hρ _ _ hx]; rfl, ?_⟩
  obtain ⟨hu, -⟩ := TD.of_slc (TI.tdof (hT.get _ _ ht)).symm
  have hu' := TD.of_str (TI.tdof (hT.get _ _ ht')).symm
  have hue := TD.of_int (TI.tdof (hT.get _ _ he)).symm
  rw [run_convert_bytes_string w t t' e none len cap hu hue hu']
  rfl
/-! ### Places with known indexes -/
def idxOk : Int → Nat → Bool
  | .ofNat j, m => Nat.blt j m
  | .negSucc _, _ => false
theorem idxOk_inv {i : Int} {m : Nat} (h : idxOk i m = true) : i = (i.toNat : Int) ∧ i.toNat < m := by
  cases i with
  | ofNat j => exact ⟨rfl, by simpa [idxOk, Nat.blt_eq] using h⟩
  | negSucc j => simp [idxOk] at h
theorem OpV.indexAK {T : Tab} (hT : T.Ok P) {t e : TypeId} {m sz : Nat} {ag : Bool} {s bb : Nat} {z : List Value} {a u : Bool} {x ix : Operand} {b o : Nat} {kd : IntKind} {i : Int}
    (ht : T.get t = some ⟨.arr m sz ag e, s, bb, z, a, u⟩) (hx : evO env x = some (.pointer (some ⟨b, o, none⟩))) (hi : evO env ix = some (.int kd i)) (hc : idxOk i m = true) :
    OpV P env w ⟨dst, .indexAddr t x ix, ty, pos, after, guard⟩ (.pointer (some ⟨b, o + i.toNat * sz, none⟩)) :=
  .indexA hT i.toNat ht hx hi (idxOk_inv hc).1 (idxOk_inv hc).2
theorem OpV.indexSK {T : Tab} (hT : T.Ok P) {t e : TypeId} {sz : Nat} {ag : Bool} {s bb : Nat} {z : List Value} {a u : Bool} {x ix : Operand} {b o len cap : Nat} {kd : IntKind} {i : Int}
    (ht : T.get t = some ⟨.slc sz ag e, s, bb, z, a, u⟩) (hx : evO env x = some (.slice (some ⟨b, o, none⟩) len cap)) (hi : evO env ix = some (.int kd i)) (hc : idxOk i len = true) :
    OpV P env w ⟨dst, .indexAddr t x ix, ty, pos, after, guard⟩ (.pointer (some ⟨b, o + i.toNat * sz, none⟩)) :=
  .indexS hT i.toNat ht hx hi (idxOk_inv hc).1 (idxOk_inv hc).2
end Go.Rn
