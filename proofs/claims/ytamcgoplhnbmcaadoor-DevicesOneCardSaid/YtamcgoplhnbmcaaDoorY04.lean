/- Parts of this project that the claims share: Map, MapR, GroupB, Dev1, Group, Ref10, RecOps, Dev5, Dev6, Lists, Open, Flat. -/
import Derived.Test.YtamcgoplhnbmcaaDoorY03
import Derived.ChangeKeysEq
import Derived.Laws.StructEq
import Derived.Maps.RangeRun
import Derived.Lib.AppendZerosOnto
import Derived.Lib.Overlaps
import Derived.ChangeArms
import Derived.Deep.Slices
set_option linter.unusedSimpArgs false
set_option linter.unusedVariables false
set_option linter.unusedSectionVars false
section
/- Maps. -/
namespace Go.Rn
open Go.RowKit
/-- What a map holds, in the order in which its entries came. -/
def setM {α β : Type} [DecidableEq α] (k : α) (v : β) : List (α × β) → List (α × β)
  | [] => [(k, v)]
  | (j, u) :: r => if k = j then (k, v) :: r else (j, u) :: setM k v r
def getM {α β : Type} [DecidableEq α] (k : α) : List (α × β) → Option β
  | [] => none
  | (j, u) :: r => if k = j then some u else getM k r
section
variable {α β : Type} [DecidableEq α]
theorem getM_set (k j : α) (v : β) : ∀ m, getM k (setM j v m) = if k = j then some v else getM k m
  | [] => by simp [setM, getM]
  | (i, u) :: r => by
    simp only [setM]
    by_cases h : j = i
    · subst h
      simp only [if_true, getM]
      by_cases h2 : k = j <;> simp [h2]
    · simp only [if_neg h, getM, getM_set k j v r]
      by_cases h2 : k = i
      · subst h2; simp [Ne.symm h]
      · simp [h2]
theorem getM_mem {k : α} {v : β} : ∀ {m : List (α × β)}, getM k m = some v → (k, v) ∈ m
  | (j, u) :: r, h => by
    simp only [getM] at h
    split at h
    · rename_i e; injection h with h; subst e; subst h; exact List.mem_cons_self
    · exact List.mem_cons_of_mem _ (getM_mem h)
theorem getM_isSome {k : α} : ∀ {m : List (α × β)}, (getM k m).isSome = true ↔ k ∈ m.map (·.1)
  | [] => by simp [getM]
  | (j, u) :: r => by
    simp only [getM, List.map_cons, List.mem_cons]
    by_cases h : k = j
    · simp [h]
    · simp [h, getM_isSome (m := r)]
theorem setM_keys (k : α) (v : β) : ∀ (m : List (α × β)), (setM k v m).map (·.1) = if k ∈ m.map (·.1) then m.map (·.1) else m.map (·.1) ++ [k]
  | [] => by simp [setM]
  | (j, u) :: r => by
    simp only [setM]
    by_cases h : k = j
    · subst h; simp
    · rw [if_neg h, List.map_cons, setM_keys k v r]
      by_cases hm : k ∈ r.map (·.1)
      · rw [if_pos hm, if_pos (show k ∈ ((j, u) :: r).map (·.1) from List.mem_cons_of_mem _ hm)]; rfl
      · rw [if_neg hm, if_neg (show ¬ k ∈ ((j, u) :: r).map (·.1) by simp only [List.map_cons, List.mem_cons, not_or]; exact ⟨h, hm⟩)]; rfl
theorem setM_map {γ : Type} (f : β → γ) (k : α) (v : β) : ∀ (m : List (α × β)), setM k (f v) (m.map fun x => (x.1, f x.2)) = (setM k v m).map fun x => (x.1, f x.2)
  | [] => rfl
  | (j, u) :: r => by
    simp only [setM, List.map_cons]
    by_cases h : k = j
    · simp [h]
    · simp only [if_neg h, List.map_cons, setM_map f k v r]
theorem getM_map {γ : Type} (f : β → γ) (k : α) : ∀ (m : List (α × β)), getM k (m.map fun x => (x.1, f x.2)) = (getM k m).map f
  | [] => rfl
  | (j, u) :: r => by
    simp only [getM, List.map_cons]
    by_cases h : k = j
    · simp [h]
    · simp only [if_neg h, getM_map f k r]
theorem setM_nodup {k : α} {v : β} {m : List (α × β)} (h : (m.map (·.1)).Nodup) : ((setM k v m).map (·.1)).Nodup := by
  rw [setM_keys]
  split
  · exact h
  · rename_i hk
    rw [List.nodup_append]
    refine ⟨h, by simp, fun a ha b hb e => ?_⟩
    simp only [List.mem_singleton] at hb
    subst hb; subst e; exact hk ha
theorem getM_of_mem {k : α} {v : β} : ∀ {m : List (α × β)}, (m.map (·.1)).Nodup → (k, v) ∈ m → getM k m = some v
  | (j, u) :: r, hn, h => by
    simp only [List.map_cons, List.nodup_cons] at hn
    simp only [getM]
    rcases List.mem_cons.1 h with e | h
    · cases e; simp
    · rw [if_neg (fun e => hn.1 (by rw [← e]; exact List.mem_map.2 ⟨(k, v), h, rfl⟩))]
      exact getM_of_mem hn.2 h
def entsOk (kv : α → Value) (good : α → Prop) (es : List MapEntry) (m : List (α × Value)) : Prop := es.map (fun e => (e.key, e.val)) = m.map (fun x => (kv x.1, x.2)) ∧ ∀ x ∈ m, good x.1
def bornOk (es : List MapEntry) (c : Nat) : Prop := (es.map (·.born)).Nodup ∧ ∀ e ∈ es, e.born < c
def MapK (kv : α → Value) (good : α → Prop) (w : World) (r : Nat) (m : List (α × Value)) : Prop := ∃ (es : Array MapEntry) (clock : Nat), w.heap[r]? = some (.map es clock) ∧ entsOk kv good es.toList m ∧ bornOk es.toList clock
theorem MapK.lt {kv : α → Value} {good : α → Prop} {w : World} {r : Nat} {m : List (α × Value)} (h : MapK kv good w r m) : r < w.heap.size := by
  obtain ⟨es, c, h, -⟩ := h; exact lt_of_get h
theorem MapK.ext {kv : α → Value} {good : α → Prop} {S : Nat → Prop} {w w' : World} {r : Nat} {m : List (α × Value)} (h : MapK kv good w r m) (e : ExtB S w w') (hn : ¬ S r) : MapK kv good w' r m := by
  obtain ⟨es, c, h1, h2⟩ := h
  exact ⟨es, c, by rw [e.block r (lt_of_get h1) hn]; exact h1, h2⟩
/-- How a key is found. -/
def Found (kv : α → Value) (good : α → Prop) (k : α) (es : List MapEntry) (m : List (α × Value)) (i : Nat) : Option (Nat × Value) → Prop
  | none => getM k m = none ∧ ∀ v, setM k v m = m ++ [(k, v)]
  | some (j, u) => getM k m = some u ∧ i ≤ j ∧ (∃ e, es[j - i]? = some e ∧ e.key = kv k) ∧ ∀ v, entsOk kv good (es.modify (j - i) fun e => { e with key := kv k, val := v }) (setM k v m)
structure KeyOk (P : Program) (kt : TypeId) (kv : α → Value) (good : α → Prop) : Prop where
  find : ∀ (w : World) (k : α) (es : List MapEntry) (m : List (α × Value)), good k → entsOk kv good es m → ∃ r, (Instr.findKey kt (kv k) es).run P w = .ok r w ∧ Found kv good k es m 0 r
  check : ∀ (w : World) (k : α) (b : Bool), good k → (Instr.checkKey b 10000 kt (kv k)).run P w = .ok () w
  same : ∀ k : α, good k → Instr.sameBits 10000 (kv k) (kv k) = true
theorem found_nil {kv : α → Value} {good : α → Prop} (k : α) {m : List (α × Value)} (i : Nat) (h : entsOk kv good [] m) : Found kv good k [] m i none := by
  have : m = [] := by cases m with | nil => rfl | cons => simp [entsOk] at h
  subst this
  exact ⟨rfl, fun v => rfl⟩
theorem found_cons {kv : α → Value} {good : α → Prop} {k : α} {e : MapEntry} {es : List MapEntry} {m : List (α × Value)} {i : Nat} (hg : good k) (h : entsOk kv good (e :: es) m) :
    ∃ j u m', m = (j, u) :: m' ∧ e.key = kv j ∧ good j ∧ entsOk kv good es m' ∧ (k = j → Found kv good k (e :: es) m i (some (i, e.val))) ∧ (k ≠ j → ∀ r, Found kv good k es m' (i + 1) r → Found kv good k (e :: es) m i r) := by
  obtain ⟨⟨j, u⟩, m', rfl⟩ : ∃ x m', m = x :: m' := by cases m with | nil => simp [entsOk] at h | cons x m' => exact ⟨x, m', rfl⟩
  obtain ⟨h, hgs⟩ := h
  simp only [List.map_cons, List.cons.injEq, Prod.mk.injEq] at h
  obtain ⟨⟨hk, hv⟩, hr⟩ := h
  have hgm : ∀ x ∈ m', good x.1 := fun x hx => hgs x (List.mem_cons_of_mem _ hx)
  refine ⟨j, u, m', rfl, hk, hgs _ List.mem_cons_self, ⟨hr, hgm⟩, fun hkj => ?_, fun hkj r h2 => ?_⟩
  · subst hkj
    simp only [Found]
    refine ⟨by simp [getM, hv], Nat.le_refl i, ⟨e, by simp, hk⟩, fun v => ?_⟩
    refine ⟨by simp [setM, hr], fun x hx => ?_⟩
    simp only [setM, if_true] at hx
    rcases List.mem_cons.1 hx with rfl | hx
    · exact hg
    · exact hgm x hx
  · match r, h2 with
    | none, h2 => exact ⟨by simp [getM, hkj, h2.1], fun v => by simp [setM, hkj, h2.2]⟩
    | some (q, u'), h2 =>
      simp only [Found] at h2 ⊢
      obtain ⟨h3, h4, ⟨e', h5, h6⟩, h7⟩ := h2
      have hq : q - i = (q - (i + 1)) + 1 := by omega
      refine ⟨by simp [getM, hkj, h3], by omega, ⟨e', by rw [hq]; simpa using h5, h6⟩, fun v => ?_⟩
      rw [hq]
      obtain ⟨h8, h9⟩ := h7 v
      refine ⟨by simp [setM, hkj, h8, hk, hv], fun x hx => ?_⟩
      simp only [setM, if_neg hkj] at hx
      rcases List.mem_cons.1 hx with rfl | hx
      · exact hgs _ List.mem_cons_self
      · exact h9 x hx
end
/-! ### Integer keys -/
theorem findNow_ok {kd : IntKind} (k : Int) : ∀ (es : List MapEntry) (m : List (Int × Value)) (i : Nat), entsOk (Value.int kd) (fun _ => True) es m →
    ∃ r, Instr.findNow (.int kd) (.int kd k) es i = some r ∧ Found (Value.int kd) (fun _ => True) k es m i r
  | [], m, i, h => ⟨none, rfl, found_nil k i h⟩
  | e :: es, m, i, h => by
    obtain ⟨j, u, m', -, hk, -, hr, h1, h2⟩ := found_cons (k := k) (i := i) trivial h
    simp only [Instr.findNow, hk, Instr.sameNow, if_true]
    by_cases hkj : k = j
    · exact ⟨some (i, e.val), by simp [hkj], h1 hkj⟩
    · have hb : (k == j) = false := by simpa using hkj
      rw [hb]
      obtain ⟨r, h3, h4⟩ := findNow_ok k es m' (i + 1) hr
      exact ⟨r, h3, h2 hkj r h4⟩
theorem keyOk_int {P : Program} {kt : TypeId} {kd : IntKind} (hk : P.underlying kt = some (.int kd)) : KeyOk P kt (Value.int kd) fun _ => True where
  find w k es m _ h := by
    obtain ⟨r, h1, h2⟩ := findNow_ok k es m 0 h
    refine ⟨r, ?_, h2⟩
    unfold Instr.findKey
    rw [run_bind _ _ (run_underlying hk), h1]; rfl
  check w k b _ := by
    show (Instr.checkKey b (9999 + 1) kt _).run P w = _
    unfold Instr.checkKey
    rw [run_bind _ _ (run_underlying hk)]
    rfl
  same k _ := by simp [Instr.sameBits]
/-! ### Arrays of bytes -/
/-- An array type of n bytes. -/
structure BytesArr (P : Program) (t e : TypeId) (n : Nat) : Prop where
  und : P.underlying t = some (.array n e)
  elem : P.underlying e = some (.int .u8)
  cells : cellsAgg P e = some (1, false)
  one : P.cellsOf e = 1
  guard : P.eqGuardType P.depth t = false
def digV (l : List UInt8) : Value := .agg (bytesV l).toArray
section
variable {P : Program} {w : World}
theorem run_eqItems_bytes {t e : TypeId} {n : Nat} (h : BytesArr P t e n) (d : Nat) (a b : List UInt8) (ha : a.length = n) (hb : b.length = n) : ∀ (m i : Nat), i + m = n →
    (Op.eqItems (d + 1) e 1 (bytesV a).toArray (bytesV b).toArray (List.range' i m)).run P w = .ok (a.drop i == b.drop i) w
  | 0, i, hi => by
    have e1 : a.drop i = [] := List.drop_eq_nil_of_le (by omega)
    have e2 : b.drop i = [] := List.drop_eq_nil_of_le (by omega)
    rw [e1, e2]; rfl
  | m + 1, i, hi => by
    have hia : i < a.length := by omega
    have hib : i < b.length := by omega
    have pa : (part e (bytesV a).toArray (i * 1)).run P w = .ok (.int .u8 (a[i].toNat : Int)) w := run_part h.cells _ _ (by simp [bytesV, hia])
    have pb : (part e (bytesV b).toArray (i * 1)).run P w = .ok (.int .u8 (b[i].toNat : Int)) w := run_part h.cells _ _ (by simp [bytesV, hib])
    have pe := run_equalIn_int (P := P) w d e .u8 .u8 (a[i].toNat : Int) (b[i].toNat : Int) h.elem
    rw [List.range'_succ]
    simp only [Op.eqItems]
    rw [run_bind _ _ pa, run_bind _ _ pb, run_bind _ _ pe]
    have e1 : a.drop i = a[i] :: a.drop (i + 1) := List.drop_eq_getElem_cons hia
    have e2 : b.drop i = b[i] :: b.drop (i + 1) := List.drop_eq_getElem_cons hib
    have eq : ((a[i].toNat : Int) == (b[i].toNat : Int)) = (a[i] == b[i]) := by
      rw [Bool.eq_iff_iff]; simp only [beq_iff_eq]
      constructor
      · intro h; exact UInt8.toNat_inj.1 (by omega)
      · intro h; rw [h]
    rw [eq, e1, e2]
    cases hab : (a[i] == b[i]) with
    | false =>
      have : (a[i] :: a.drop (i + 1) == b[i] :: b.drop (i + 1)) = false := by rw [List.cons_beq_cons, hab, Bool.false_and]
      rw [this]; rfl
    | true =>
      have : (a[i] :: a.drop (i + 1) == b[i] :: b.drop (i + 1)) = (a.drop (i + 1) == b.drop (i + 1)) := by rw [List.cons_beq_cons, hab, Bool.true_and]
      rw [this]
      exact run_eqItems_bytes h d a b ha hb m (i + 1) (by omega)
theorem run_equal_bytes {t e : TypeId} {n : Nat} (h : BytesArr P t e n) (a b : List UInt8) (ha : a.length = n) (hb : b.length = n) : (Op.equal t (digV a) (digV b)).run P w = .ok (a == b) w := by
  obtain ⟨i, _, hi, _, _, _⟩ := cellsAgg_inv h.cells
  show (Op.equalIn (9999 + 1) t _ _).run P w = _
  unfold digV
  rw [run_equalIn_array w 9999 _ _ h.und hi, h.one, List.range_eq_range']
  have := run_eqItems_bytes (w := w) h 9998 a b ha hb n 0 (by omega)
  simpa using this
variable {env : Env} {dst : Option Tmp} {ty : TypeId} {pos : String} {after : Array Edge} {guard : Option (Nat × Bool)}
theorem OpV.eqBytes {t e u : TypeId} {n : Nat} (h : BytesArr P t e n) {x y : Operand} {a b : List UInt8} (hx : evO env x = some (digV a)) (hy : evO env y = some (digV b)) (ha : a.length = n) (hb : b.length = n) :
    OpV P env w ⟨dst, .binOp .eql t x y u, ty, pos, after, guard⟩ (.bool (a == b)) := .of_run fun ρ hρ => by
  refine ⟨_, by simp only [execOp, hρ _ _ hx, hρ _ _ hy]; rfl, ?_⟩
  have h1 := run_eqGuard_agg (P := P) w .eql t x y (bytesV a).toArray (bytesV b).toArray h.guard
  have h2 := run_eql_struct (P := P) w t (bytesV a).toArray (bytesV b).toArray
  have h3 := run_equal_bytes (w := w) h a b ha hb
  unfold digV at h3 ⊢
  rw [run_bind _ _ h1, h2]
  have h4 : (Op.equalIn 10000 t (.agg (bytesV a).toArray) (.agg (bytesV b).toArray)).run P w = .ok (a == b) w := h3
  rw [h4]; rfl
theorem OpV.neBytes {t e u : TypeId} {n : Nat} (h : BytesArr P t e n) {x y : Operand} {a b : List UInt8} (hx : evO env x = some (digV a)) (hy : evO env y = some (digV b)) (ha : a.length = n) (hb : b.length = n) :
    OpV P env w ⟨dst, .binOp .neq t x y u, ty, pos, after, guard⟩ (.bool (!(a == b))) := .of_run fun ρ hρ => by
  refine ⟨_, by simp only [execOp, hρ _ _ hx, hρ _ _ hy]; rfl, ?_⟩
  have h1 := run_eqGuard_agg (P := P) w .neq t x y (bytesV a).toArray (bytesV b).toArray h.guard
  have h2 := run_neq_struct (P := P) w t (bytesV a).toArray (bytesV b).toArray
  have h3 := run_equal_bytes (w := w) h a b ha hb
  unfold digV at h3 ⊢
  rw [run_bind _ _ h1, h2]
  have h4 : (Op.equalIn 10000 t (.agg (bytesV a).toArray) (.agg (bytesV b).toArray)).run P w = .ok (a == b) w := h3
  rw [h4]; rfl
end
/-! ### Operations -/
section
variable {α : Type} [DecidableEq α] {kv : α → Value} {good : α → Prop}
variable {P : Program} {w : World} {env : Env} {dst : Option Tmp} {ty : TypeId} {pos : String} {after : Array Edge} {guard : Option (Nat × Bool)}
theorem OpE.makeMap (kv : α → Value) (good : α → Prop) {t : TypeId} : OpE P env w ⟨dst, .makeMap t none, ty, pos, after, guard⟩ (fun v w' => ∃ r, v = .map (some r) ∧ Added w w' r (.map #[] 0) ∧ MapK kv good w' r []) fun _ _ => False :=
  .of_run (w' := _) (v := _) ⟨w.heap.size, rfl, added_push w _, ⟨#[], 0, (added_push w _).at_, ⟨rfl, fun _ h => by simp at h⟩, ⟨by simp, fun _ h => by simp at h⟩⟩⟩ fun ρ hρ => ⟨_, rfl, rfl⟩
theorem run_lookup_ok {t kt et : TypeId} {r : Nat} {k : α} {m : List (α × Value)} {z : Value} (ht : P.underlying t = some (.map kt et)) (hk : KeyOk P kt kv good) (hz : (P.info? et).bind (·.zero) = some z)
    (hg : good k) (hm : MapK kv good w r m) (ok : Bool) : (Instr.lookup t (.map (some r)) (kv k) ok).run P w = .ok (if ok then .tuple #[(getM k m).getD z, .bool (getM k m).isSome] else (getM k m).getD z) w := by
  obtain ⟨es, c, h1, h2, -⟩ := hm
  obtain ⟨i, hi, hiz⟩ := Option.bind_eq_some_iff.1 hz
  have hzr : (zeroValue et).run P w = .ok z w := by unfold zeroValue; rw [run_bind _ _ (run_typeInfo hi), hiz]; rfl
  obtain ⟨q, hf, h4⟩ := hk.find w k es.toList m hg h2
  unfold Instr.lookup
  rw [run_bind _ _ (run_underlying ht)]
  simp only
  rw [run_bind _ _ (run_getObj h1 (by intros; simp))]
  simp only
  rw [run_bind (v := es) (w' := w) _ _ rfl, run_bind _ _ (hk.check w k _ hg)]
  match q, h4, hf with
  | none, h4, hf =>
    rw [run_bind _ _ hf]
    simp only
    rw [run_bind _ _ hzr, h4.1]; rfl
  | some (j, u), h4, hf =>
    rw [run_bind _ _ hf, h4.1]; rfl
theorem OpV.lookup {t kt et : TypeId} {x y : Operand} {r : Nat} {k : α} {m : List (α × Value)} {z : Value} (ht : P.underlying t = some (.map kt et)) (hk : KeyOk P kt kv good) (hz : (P.info? et).bind (·.zero) = some z)
    (hx : evO env x = some (.map (some r))) (hy : evO env y = some (kv k)) (hg : good k) (hm : MapK kv good w r m) :
    OpV P env w ⟨dst, .lookup t x y false, ty, pos, after, guard⟩ ((getM k m).getD z) := .of_run fun ρ hρ =>
  ⟨_, by simp only [execOp, hρ _ _ hx, hρ _ _ hy] <;> rfl, run_lookup_ok ht hk hz hg hm false⟩
theorem OpV.lookup2 {t kt et : TypeId} {x y : Operand} {r : Nat} {k : α} {m : List (α × Value)} {z : Value} (ht : P.underlying t = some (.map kt et)) (hk : KeyOk P kt kv good) (hz : (P.info? et).bind (·.zero) = some z)
    (hx : evO env x = some (.map (some r))) (hy : evO env y = some (kv k)) (hg : good k) (hm : MapK kv good w r m) :
    OpV P env w ⟨dst, .lookup t x y true, ty, pos, after, guard⟩ (.tuple #[(getM k m).getD z, .bool (getM k m).isSome]) := .of_run fun ρ hρ =>
  ⟨_, by simp only [execOp, hρ _ _ hx, hρ _ _ hy] <;> rfl, run_lookup_ok ht hk hz hg hm true⟩
theorem OpE.mapSet {t kt et : TypeId} {x y zz : Operand} {r : Nat} {k : α} {v : Value} {m : List (α × Value)} (ht : P.underlying t = some (.map kt et)) (hk : KeyOk P kt kv good)
    (hx : evO env x = some (.map (some r))) (hy : evO env y = some (kv k)) (hv : evO env zz = some v) (hg : good k) (hm : MapK kv good w r m) :
    OpE P env w ⟨dst, .mapUpdate t x y zz, ty, pos, after, guard⟩ (fun _ w' => MapK kv good w' r (setM k v m) ∧ ExtB (· = r) w w' ∧ w'.heap.size = w.heap.size) fun _ _ => False := by
  obtain ⟨es, c, h1, h2, hbo⟩ := hm
  obtain ⟨q, hf, h4⟩ := hk.find w k es.toList m hg h2
  have hlt := lt_of_get h1
  obtain ⟨es', c', hes, hbo', hrun⟩ : ∃ es' c', entsOk kv good es'.toList (setM k v m) ∧ bornOk es'.toList c' ∧ (Instr.mapUpdate t (.map (some r)) (kv k) v).run P w = .ok () (World.setObj w r (.map es' c')) := by
    unfold Instr.mapUpdate
    match q, h4, hf with
    | none, h4, hf =>
      refine ⟨es.push { key := kv k, val := v, born := c }, c + 1, ?_, ?_, ?_⟩
      rotate_left
      · obtain ⟨b1, b2⟩ := hbo
        refine ⟨?_, fun e he => ?_⟩
        · rw [Array.toList_push, List.map_append, List.map_singleton, List.nodup_append]
          refine ⟨b1, by simp, fun a ha b hb => ?_⟩
          simp only [List.mem_singleton] at hb; subst hb
          obtain ⟨e, he, rfl⟩ := List.mem_map.1 ha
          have := b2 e he
          exact Nat.ne_of_lt this
        · rw [Array.toList_push] at he
          rcases List.mem_append.1 he with he | he
          · have := b2 e he; omega
          · simp only [List.mem_singleton] at he; subst he; exact Nat.lt_succ_self c
      rotate_left
      · rw [h4.2]
        refine ⟨by have := h2.1; simp [this], fun x hx => ?_⟩
        rcases List.mem_append.1 hx with hx | hx
        · exact h2.2 x hx
        · simp at hx; subst hx; exact hg
      · rw [run_bind _ _ (run_underlying ht)]
        simp only
        rw [run_bind _ _ (run_getObj h1 (by intros; simp))]
        simp only
        rw [run_bind _ _ (hk.check w k _ hg), run_bind _ _ hf]
        exact run_setObj h1 (by intros; simp)
    | some (j, u), h4, hf =>
      simp only [Found, Nat.sub_zero] at h4
      obtain ⟨-, -, ⟨e, he, hek⟩, h7⟩ := h4
      refine ⟨es.modify j fun e => { e with key := kv k, val := v }, c, ?_, ?_, ?_⟩
      · rw [Array.toList_modify]; exact h7 v
      · obtain ⟨b1, b2⟩ := hbo
        have hmp : (es.toList.modify j fun e => { e with key := kv k, val := v }).map (·.born) = es.toList.map (·.born) := by
          apply List.ext_getElem?
          intro i
          simp only [List.getElem?_map, List.getElem?_modify]
          cases es.toList[i]? with
          | none => rfl
          | some e => by_cases h : j = i <;> simp [h]
        rw [Array.toList_modify]
        refine ⟨by rw [hmp]; exact b1, fun e he => ?_⟩
        have : e.born ∈ (es.toList.modify j fun e => { e with key := kv k, val := v }).map (·.born) := List.mem_map.2 ⟨e, he, rfl⟩
        rw [hmp] at this
        obtain ⟨e', he', hb⟩ := List.mem_map.1 this
        rw [← hb]; exact b2 e' he'
      · rw [run_bind _ _ (run_underlying ht)]
        simp only
        rw [run_bind _ _ (run_getObj h1 (by intros; simp))]
        simp only
        rw [run_bind _ _ (hk.check w k _ hg), run_bind _ _ hf]
        simp only
        have hgk : ((es[j]?).map (·.key)).getD (kv k) = kv k := by
          rw [Array.getElem?_toList] at he
          rw [he]; simp [hek]
        rw [hgk]
        have hks : (Instr.keyThatStays (kv k) (kv k)).run P w = .ok (kv k) w := by
          unfold Instr.keyThatStays
          rw [hk.same k hg]; rfl
        rw [run_bind _ _ hks]
        exact run_setObj h1 (by intros; simp)
  have ht' := turned_set w hlt (.map es' c')
  intro ρ hρ
  have he : execOp ρ ⟨dst, .mapUpdate t x y zz, ty, pos, after, guard⟩ = (do Instr.mapUpdate t (.map (some r)) (kv k) v; pure .skip : Sem Next) := by
    simp only [execOp, hρ _ _ hx, hρ _ _ hy, hρ _ _ hv]
  exact ExecE.of_skip (w' := World.setObj w r (.map es' c')) (by rw [he, run_bind _ _ hrun]; rfl) ⟨⟨es', c', ht'.at_, hes, hbo'⟩, ht'.ext, ht'.size⟩
end
end Go.Rn
end
section
/- Ranging over a map that the loop does not write. -/
namespace Go.Rn
open Go.RowKit
theorem range_filterMap {β : Type} (m : List β) : (List.range m.length).filterMap (fun j => m[j]?) = m := by
  induction m with
  | nil => rfl
  | cons a m ih =>
    rw [List.length_cons, List.range_succ_eq_map, List.filterMap_cons]
    simp only [List.getElem?_cons_zero, List.filterMap_map]
    congr 1
section
variable {α : Type} [DecidableEq α] {kv : α → Value} {good : α → Prop}
/-- Which entries have been handed out, by their places. -/
structure SeenOk (es : Array MapEntry) (seen : Array Nat) (js : List Nat) : Prop where
  nodup : js.Nodup
  lt : ∀ j ∈ js, j < es.size
  mem : ∀ i e, es[i]? = some e → (e.born ∈ seen ↔ i ∈ js)
  back : seen.back? = js.getLast?.bind fun j => es[j]?.map (·.born)
/-- An iterator over a map: what it has handed out. -/
def IterAt (kv : α → Value) (good : α → Prop) (w : World) (it r : Nat) (m ys : List (α × Value)) : Prop :=
  ∃ (es : Array MapEntry) (clock since : Nat) (seen : Array Nat) (js : List Nat), w.heap[it]? = some (.mapIter (some r) since seen clock) ∧ w.heap[r]? = some (.map es clock) ∧
    entsOk kv good es.toList m ∧ bornOk es.toList clock ∧ (∀ e ∈ es.toList, e.born < since) ∧ since ≤ clock ∧ SeenOk es seen js ∧ ys = js.filterMap fun j => m[j]?
theorem entsOk_length {es : List MapEntry} {m : List (α × Value)} (h : entsOk kv good es m) : es.length = m.length := by
  have := congrArg List.length h.1; simpa using this
theorem entsOk_get {es : List MapEntry} {m : List (α × Value)} (h : entsOk kv good es m) {i : Nat} {e : MapEntry} (he : es[i]? = some e) : ∃ x, m[i]? = some x ∧ e.key = kv x.1 ∧ e.val = x.2 ∧ good x.1 := by
  have h1 := congrArg (·[i]?) h.1
  simp only [List.getElem?_map, he, Option.map_some] at h1
  cases hx : m[i]? with
  | none => rw [hx] at h1; simp at h1
  | some x =>
    rw [hx] at h1
    simp only [Option.map_some, Option.some.injEq, Prod.mk.injEq] at h1
    exact ⟨x, rfl, h1.1, h1.2, h.2 x (List.mem_of_getElem? hx)⟩
theorem IterAt.ext {S : Nat → Prop} {w w' : World} {it r : Nat} {m ys : List (α × Value)} (h : IterAt kv good w it r m ys) (e : ExtB S w w') (h1 : ¬ S it) (h2 : ¬ S r) : IterAt kv good w' it r m ys := by
  obtain ⟨es, clock, since, seen, js, a, b, rest⟩ := h
  exact ⟨es, clock, since, seen, js, by rw [e.block it (lt_of_get a) h1]; exact a, by rw [e.block r (lt_of_get b) h2]; exact b, rest⟩
theorem IterAt.up {w w' : World} {it r : Nat} {m ys : List (α × Value)} (h : IterAt kv good w it r m ys) (e : Ext w w') : IterAt kv good w' it r m ys := h.ext e id id
theorem IterAt.map {w : World} {it r : Nat} {m ys : List (α × Value)} (h : IterAt kv good w it r m ys) : MapK kv good w r m := by
  obtain ⟨es, clock, since, seen, js, a, b, c, d, rest⟩ := h
  exact ⟨es, clock, b, c, d⟩
theorem IterAt.lt {w : World} {it r : Nat} {m ys : List (α × Value)} (h : IterAt kv good w it r m ys) : it < w.heap.size := by
  obtain ⟨es, clock, since, seen, js, a, rest⟩ := h; exact lt_of_get a
theorem MapK.up {w w' : World} {r : Nat} {m : List (α × Value)} (h : MapK kv good w r m) (e : Ext w w') : MapK kv good w' r m := h.ext e id
theorem MapK.other {w w' : World} {r B : Nat} {m : List (α × Value)} (h : MapK kv good w r m) (e : ExtB (· = B) w w') (hn : r ≠ B) : MapK kv good w' r m := h.ext e hn
theorem IterAt.other {w w' : World} {it r B : Nat} {m ys : List (α × Value)} (h : IterAt kv good w it r m ys) (e : ExtB (· = B) w w') (h1 : it ≠ B) (h2 : r ≠ B) : IterAt kv good w' it r m ys := h.ext e h1 h2
theorem perm_rest (js : List Nat) (n : Nat) (h1 : js.Nodup) (h2 : ∀ j ∈ js, j < n) : (js ++ (List.range n).filter fun j => decide (j ∉ js)).Perm (List.range n) := by
  rw [List.perm_iff_count]
  intro a
  rw [List.count_append]
  have hr : (List.range n).count a = if a < n then 1 else 0 := by
    by_cases h : a < n
    · rw [if_pos h]; exact by rw [List.Nodup.count List.nodup_range, if_pos (List.mem_range.2 h)]
    · rw [if_neg h]; exact List.count_eq_zero.2 (by simpa using h)
  by_cases hj : a ∈ js
  · have e1 : js.count a = 1 := by rw [h1.count, if_pos hj]
    have e2 : ((List.range n).filter fun j => decide (j ∉ js)).count a = 0 := List.count_eq_zero.2 (by simp [hj])
    rw [e1, e2, hr, if_pos (h2 a hj)]
  · have e1 : js.count a = 0 := List.count_eq_zero.2 hj
    have e2 : ((List.range n).filter fun j => decide (j ∉ js)).count a = (List.range n).count a := List.count_filter (by simpa using hj)
    rw [e1, e2, Nat.zero_add]
theorem IterAt.sub {w : World} {it r : Nat} {m ys : List (α × Value)} (h : IterAt kv good w it r m ys) : ∃ zs, (ys ++ zs).Perm m := by
  obtain ⟨es, clock, since, seen, js, -, -, hok, -, -, -, hs, rfl⟩ := h
  have hn : es.size = m.length := by have := entsOk_length hok; simpa using this
  refine ⟨((List.range m.length).filter fun j => decide (j ∉ js)).filterMap fun j => m[j]?, ?_⟩
  rw [← List.filterMap_append]
  have := (perm_rest js m.length hs.nodup (by rw [← hn]; exact hs.lt)).filterMap fun j => m[j]?
  rwa [range_filterMap] at this
variable {P : Program} {w : World} {env : Env} {dst : Option Tmp} {ty : TypeId} {pos : String} {after : Array Edge} {guard : Option (Nat × Bool)}
theorem OpE.rangeMap {t kt et : TypeId} {x : Operand} {r : Nat} {m : List (α × Value)} (ht : P.underlying t = some (.map kt et)) (hx : evO env x = some (.map (some r))) (hm : MapK kv good w r m) :
    OpE P env w ⟨dst, .range t x, ty, pos, after, guard⟩ (fun v w' => ∃ it, v = .pointer (some ⟨it, 0, none⟩) ∧ it = w.heap.size ∧ w'.heap.size = w.heap.size + 1 ∧ Ext w w' ∧ IterAt kv good w' it r m []) fun _ _ => False := by
  obtain ⟨es, clock, h1, h2, h3⟩ := hm
  have ha := added_push w (.mapIter (some r) clock #[] clock)
  refine .of_run (w' := { w with heap := w.heap.push (.mapIter (some r) clock #[] clock) }) (v := .pointer (some ⟨w.heap.size, 0, none⟩)) ⟨w.heap.size, rfl, rfl, ha.size, ha.ext, ?_⟩ fun ρ hρ => ⟨_, by simp only [execOp, hρ _ _ hx] <;> rfl, ?_⟩
  · refine ⟨es, clock, clock, #[], [], ha.at_, ?_, h2, h3, h3.2, Nat.le_refl _, ⟨List.nodup_nil, by simp, by simp, by simp⟩, rfl⟩
    rw [ha.ext.block r (lt_of_get h1) id]; exact h1
  · exact run_range_map w t kt et r es clock ht h1
theorem ext_setBlock {w : World} {b : Nat} {o : Obj} (hb : b < w.heap.size) : Turned w (Go.ChangeMaps.setBlock w b o) b o := turned_set w hb o
theorem OpE.nextMap {x : Operand} {it r : Nat} {m ys : List (α × Value)} (hx : evO env x = some (.pointer (some ⟨it, 0, none⟩))) (hi : IterAt kv good w it r m ys) :
    OpE P env w ⟨dst, .next x false, ty, pos, after, guard⟩ (fun v w' => (v = .tuple #[.bool false] ∧ w' = w ∧ ys.Perm m) ∨
      ∃ y, v = .tuple #[.bool true, kv y.1, y.2] ∧ good y.1 ∧ IterAt kv good w' it r m (ys ++ [y]) ∧ ExtB (· = it) w w' ∧ w'.heap.size = w.heap.size) fun _ _ => False := by
  obtain ⟨es, clock, since, seen, js, a, b, c, d, ho, hcl, hs, rfl⟩ := hi
  have hn : es.size = m.length := by have := entsOk_length c; simpa using this
  have hir : it ≠ r := by intro e; subst e; rw [a] at b; simp at b
  rcases run_next_at (P := P) w ty it r since clock seen es clock a b ho hcl with ⟨h0, hrun⟩ | ⟨e, he, w1, hw1, hrun⟩
  · refine .of_run (w' := w) (v := .tuple #[.bool false]) (.inl ⟨rfl, rfl, ?_⟩) fun ρ hρ => ⟨_, by simp only [execOp, hρ _ _ hx] <;> rfl, hrun⟩
    have hall : ∀ i, i < es.size → i ∈ js := by
      intro i hi
      refine (hs.mem i es[i] (Array.getElem?_eq_getElem hi)).1 ?_
      have hl : leftOf es seen = #[] := Array.eq_empty_of_size_eq_zero h0
      unfold leftOf at hl
      rw [Array.filter_eq_empty_iff] at hl
      have := hl es[i] (Array.getElem_mem hi)
      simpa using this
    have hp := perm_rest js m.length hs.nodup (by rw [← hn]; exact hs.lt)
    have hz : ((List.range m.length).filter fun j => decide (j ∉ js)) = [] := by
      rw [List.filter_eq_nil_iff]
      intro j hj
      have := hall j (by rw [hn]; exact List.mem_range.1 hj)
      simpa using this
    rw [hz, List.append_nil] at hp
    have := hp.filterMap fun j => m[j]?
    rwa [range_filterMap] at this
  · unfold leftOf at he
    rw [Array.mem_toList_iff, Array.mem_filter] at he
    obtain ⟨he1, he2⟩ := he
    have he2 : e.born ∉ seen := by simpa using he2
    obtain ⟨i, hi, hie⟩ := Array.getElem_of_mem he1
    have hge : es[i]? = some e := by rw [Array.getElem?_eq_getElem hi, hie]
    have hij : i ∉ js := fun h => he2 ((hs.mem i e hge).2 h)
    obtain ⟨y, hy, hk, hv, hgd⟩ := entsOk_get c (i := i) (e := e) (by rw [Array.getElem?_toList]; exact hge)
    have hw1s : w1.heap = w.heap := by rcases hw1 with rfl | rfl <;> rfl
    have X1 : Ext w w1 := by
      rcases hw1 with rfl | rfl
      · exact ExtB.refl _ _
      · exact ⟨Nat.le_succ _, rfl, rfl, rfl, Nat.le_refl _, fun _ _ _ => rfl⟩
    have hT := ext_setBlock (w := w1) (b := it) (o := .mapIter (some r) since (seen.push e.born) clock) (by rw [hw1s]; exact lt_of_get a)
    rw [hk, hv] at hrun
    refine .of_run (w' := _) (v := _) (.inr ⟨y, rfl, hgd, ⟨es, clock, since, seen.push e.born, js ++ [i], hT.at_, ?_, c, d, ho, hcl, ⟨?_, ?_, ?_, ?_⟩, ?_⟩, ?_, ?_⟩) fun ρ hρ => ⟨_, by simp only [execOp, hρ _ _ hx] <;> rfl, hrun⟩
    · rw [hT.ext.block r (by rw [hw1s]; exact lt_of_get b) (fun h => hir h.symm), hw1s]; exact b
    · rw [List.nodup_append]
      refine ⟨hs.nodup, by simp, fun u hu v hv e => ?_⟩
      simp only [List.mem_singleton] at hv
      subst hv; subst e; exact hij hu
    · intro j hj
      rcases List.mem_append.1 hj with hj | hj
      · exact hs.lt j hj
      · simp only [List.mem_singleton] at hj; subst hj; exact hi
    · intro j f hf
      rw [Array.mem_push, List.mem_append, List.mem_singleton, hs.mem j f hf]
      refine or_congr Iff.rfl ⟨fun hb => ?_, fun hb => ?_⟩
      · have hnd := List.pairwise_iff_getElem.1 d.1
        have hjl : j < es.size := (Array.getElem?_eq_some_iff.1 hf).1
        have ej : es[j] = f := (Array.getElem?_eq_some_iff.1 hf).2
        rcases Nat.lt_trichotomy j i with h | h | h
        · have := hnd j i (by simpa using hjl) (by simpa using hi) h
          simp only [List.getElem_map, Array.getElem_toList, ej, hie] at this
          exact absurd hb this
        · exact h
        · have := hnd i j (by simpa using hi) (by simpa using hjl) h
          simp only [List.getElem_map, Array.getElem_toList, ej, hie] at this
          exact absurd hb.symm this
      · subst hb; rw [hge] at hf; cases hf; rfl
    · rw [Array.back?_push]; simp [hge]
    · rw [List.filterMap_append]; simp [hy]
    · exact (ExtB.of_ext X1).trans hT.ext
    · rw [hT.size, hw1s]
theorem OpV.entryMap {x : Operand} {it r : Nat} {m ys : List (α × Value)} {y : α × Value} (hx : evO env x = some (.pointer (some ⟨it, 0, none⟩))) (hi : IterAt kv good w it r m (ys ++ [y])) :
    OpV P env w ⟨dst, .entry x, ty, pos, after, guard⟩ (.tuple #[kv y.1, y.2]) := .of_run fun ρ hρ => by
  refine ⟨_, by simp only [execOp, hρ _ _ hx] <;> rfl, ?_⟩
  obtain ⟨es, clock, since, seen, js, a, b, c, d, ho, hcl, hs, hys⟩ := hi
  have hn : es.size = m.length := by have := entsOk_length c; simpa using this
  -- the last place
  rcases List.eq_nil_or_concat js with rfl | ⟨js', i, rfl⟩
  · simp at hys
  have hil : i < es.size := hs.lt i (by simp)
  have hmi : i < m.length := by omega
  rw [List.concat_eq_append, List.filterMap_append] at hys
  have e1 : [i].filterMap (fun j => m[j]?) = [m[i]] := by simp [hmi]
  rw [e1] at hys
  have hy : y = m[i] := by
    have := List.append_inj_right' hys (by rfl)
    simpa using this
  obtain ⟨z, hz, hk, hv, -⟩ := entsOk_get c (i := i) (e := es[i]) (by rw [Array.getElem?_toList]; exact Array.getElem?_eq_getElem hil)
  have hzy : z = y := by rw [hy]; rw [List.getElem?_eq_getElem hmi] at hz; exact (Option.some.inj hz).symm
  subst hzy
  have hb2 : seen.back? = some es[i].born := by
    rw [hs.back, List.concat_eq_append]; simp [hil]
  obtain ⟨seen', hpush⟩ : ∃ s' : Array Nat, seen = s'.push es[i].born := by
    rw [Array.back?_eq_some_iff] at hb2
    obtain ⟨ys', hys'⟩ := hb2
    exact ⟨ys', hys'⟩
  rw [hpush] at a
  have hs0 := run_entry_at (P := P) w it r since seen' es clock es[i] a b (by simp) d.1
  rw [hk, hv] at hs0
  exact hs0
end
end Go.Rn
end
section
/- The walks of package group: Mul; what Element and Number are. -/
namespace Go.Sg
open Go.Rn Go.NT Go.Proofs

def grpE (b : Bool) : Int := if b then 0 else 100
def mulC (a b : Int) : Int := if validS a && validS b then a * b % 2147483579 else 0

theorem mul_ok (a b : Int) (w : World) : Rets Tryd.prog 27 [.int .i64 a, .int .i64 b] w fun v w' => v = .tuple #[.int .i64 (mulC a b), .int .i64 (grpE (validS a && validS b))] ∧ w = w' := by
  refine RetsX.of (nt := 18) Tryd.func27 (by kernel_rfl) rfl rfl (by simp) (by simp only [argEnv]; rfl) ?_
  repeat (first | refine RunL.pureI Tryd.tOk rfl rfl rfl (by (first | exact wr_i64 (by omega) (by omega) | exact wm_i64 (by omega) | exact wq_i64 (by omega) (by omega) (by omega) | rfl)) ?_ | refine RunL.pure Tryd.tOk rfl rfl rfl ?_ | refine RunL.unwantedD rfl rfl ?_ | refine RunE.seq ?_ | refine RunE.region ?_ | refine RunL.nil ?_ | refine RunE.block ?_ | refine RunE.inBlock ?_ | refine RunE.skip ?_ | refine RunE.exit rfl ?_ | refine RunE.scope ?_ | refine RunE.inScope ?_ | refine RunE.label ?_)
  refine RunL.call rfl rfl rfl (valid_ok _ _) ?_
  rintro _ _ ⟨rfl, rfl⟩
  cases ha : validS a with
  | false =>
    repeat (first | refine RunL.pureI Tryd.tOk rfl rfl rfl (by (first | exact wr_i64 (by omega) (by omega) | exact wm_i64 (by omega) | exact wq_i64 (by omega) (by omega) (by omega) | rfl)) ?_ | refine RunL.pure Tryd.tOk rfl rfl rfl ?_ | refine RunL.unwantedD rfl rfl ?_ | refine RunE.seq ?_ | refine RunE.region ?_ | refine RunL.nil ?_ | refine RunE.block ?_ | refine RunE.inBlock ?_ | refine RunE.skip ?_ | refine RunE.exit rfl ?_ | refine RunE.scope ?_ | refine RunE.inScope ?_ | refine RunE.label ?_)
    refine RunE.condT rfl rfl ?_
    repeat (first | refine RunL.pureI Tryd.tOk rfl rfl rfl (by (first | exact wr_i64 (by omega) (by omega) | exact wm_i64 (by omega) | exact wq_i64 (by omega) (by omega) (by omega) | rfl)) ?_ | refine RunL.pure Tryd.tOk rfl rfl rfl ?_ | refine RunL.unwantedD rfl rfl ?_ | refine RunE.seq ?_ | refine RunE.region ?_ | refine RunL.nil ?_ | refine RunE.block ?_ | refine RunE.inBlock ?_ | refine RunE.skip ?_ | refine RunE.exit rfl ?_ | refine RunE.scope ?_ | refine RunE.inScope ?_ | refine RunE.label ?_)
    exact RunE.retFn Tryd.func27 (.tmp rfl (.tmp rfl .nil)) ⟨by simp [oneOr, mulC, ha, grpE], rfl⟩
  | true =>
    repeat (first | refine RunL.pureI Tryd.tOk rfl rfl rfl (by (first | exact wr_i64 (by omega) (by omega) | exact wm_i64 (by omega) | exact wq_i64 (by omega) (by omega) (by omega) | rfl)) ?_ | refine RunL.pure Tryd.tOk rfl rfl rfl ?_ | refine RunL.unwantedD rfl rfl ?_ | refine RunE.seq ?_ | refine RunE.region ?_ | refine RunL.nil ?_ | refine RunE.block ?_ | refine RunE.inBlock ?_ | refine RunE.skip ?_ | refine RunE.exit rfl ?_ | refine RunE.scope ?_ | refine RunE.inScope ?_ | refine RunE.label ?_)
    refine RunL.call rfl rfl rfl (valid_ok _ _) ?_
    rintro _ _ ⟨rfl, rfl⟩
    cases hb : validS b with
    | false =>
      repeat (first | refine RunL.pureI Tryd.tOk rfl rfl rfl (by (first | exact wr_i64 (by omega) (by omega) | exact wm_i64 (by omega) | exact wq_i64 (by omega) (by omega) (by omega) | rfl)) ?_ | refine RunL.pure Tryd.tOk rfl rfl rfl ?_ | refine RunL.unwantedD rfl rfl ?_ | refine RunE.seq ?_ | refine RunE.region ?_ | refine RunL.nil ?_ | refine RunE.block ?_ | refine RunE.inBlock ?_ | refine RunE.skip ?_ | refine RunE.exit rfl ?_ | refine RunE.scope ?_ | refine RunE.inScope ?_ | refine RunE.label ?_)
      refine RunE.condT rfl rfl ?_
      repeat (first | refine RunL.pureI Tryd.tOk rfl rfl rfl (by (first | exact wr_i64 (by omega) (by omega) | exact wm_i64 (by omega) | exact wq_i64 (by omega) (by omega) (by omega) | rfl)) ?_ | refine RunL.pure Tryd.tOk rfl rfl rfl ?_ | refine RunL.unwantedD rfl rfl ?_ | refine RunE.seq ?_ | refine RunE.region ?_ | refine RunL.nil ?_ | refine RunE.block ?_ | refine RunE.inBlock ?_ | refine RunE.skip ?_ | refine RunE.exit rfl ?_ | refine RunE.scope ?_ | refine RunE.inScope ?_ | refine RunE.label ?_)
      exact RunE.retFn Tryd.func27 (.tmp rfl (.tmp rfl .nil)) ⟨by simp [oneOr, mulC, ha, hb, grpE], rfl⟩
    | true =>
      have h1 := validS_inv ha
      have h2 := validS_inv hb
      have hm := mulmod_bd (by omega : 0 ≤ a) h1.2.1 (by omega : 0 ≤ b) h2.2.1
      clear h1 h2
      repeat (first | refine RunL.pureI Tryd.tOk rfl rfl rfl (by (first | exact wr_i64 (by omega) (by omega) | exact wm_i64 (by omega) | exact wq_i64 (by omega) (by omega) (by omega) | rfl)) ?_ | refine RunL.pure Tryd.tOk rfl rfl rfl ?_ | refine RunL.unwantedD rfl rfl ?_ | refine RunE.seq ?_ | refine RunE.region ?_ | refine RunL.nil ?_ | refine RunE.block ?_ | refine RunE.inBlock ?_ | refine RunE.skip ?_ | refine RunE.exit rfl ?_ | refine RunE.scope ?_ | refine RunE.inScope ?_ | refine RunE.label ?_)
      refine RunE.condF rfl rfl ?_
      repeat (first | refine RunL.pureI Tryd.tOk rfl rfl rfl (by (first | exact wr_i64 (by omega) (by omega) | exact wm_i64 (by omega) | exact wq_i64 (by omega) (by omega) (by omega) | rfl)) ?_ | refine RunL.pure Tryd.tOk rfl rfl rfl ?_ | refine RunL.unwantedD rfl rfl ?_ | refine RunE.seq ?_ | refine RunE.region ?_ | refine RunL.nil ?_ | refine RunE.block ?_ | refine RunE.inBlock ?_ | refine RunE.skip ?_ | refine RunE.exit rfl ?_ | refine RunE.scope ?_ | refine RunE.inScope ?_ | refine RunE.label ?_)
      exact RunE.retFn Tryd.func27 (.tmp rfl (.tmp rfl .nil)) ⟨by simp [oneOr, mulC, ha, hb, grpE], rfl⟩

def elemC (n : Int) : Int := if n < 1 ∨ n > 1073741789 then 0 else if validS n then n else 2147483579 - n
def elemE (n : Int) : Int := if n < 1 ∨ n > 1073741789 then 1 else 0

def numC (x : Int) : Int := if validS x then (if x ≤ 1073741789 then x else 2147483579 - x) else 0

end Go.Sg
end
section
/- Devices: bounds, right, Check. -/
namespace Go.Dev
open Go.Rn Go.Rec
@[reducible] def Dev.cells (x : Dev) : List Value := [.int .i64 x.no, .int .i64 x.at_, .int .i64 x.known, .int .i64 x.person, .int .i64 x.key, .bool x.gone]
theorem encD : EncOk Dev.cells 6 := ⟨fun _ => rfl, fun _ => rfl, by decide⟩
abbrev LD (w : World) (v : Value) (l : List Dev) : Prop := IsL w Dev.cells 6 v l
def zeroD : Dev := ⟨0, 0, 0, 0, 0, false⟩
/-- What Check remembers: the keys that stand. -/
def UsedM (m : List (Int × Value)) (pre : List Dev) : Prop := ∀ k, ∃ b : Bool, (getM k m).getD (.bool false) = .bool b ∧ b = usedD pre k
theorem usedM_nil : UsedM [] [] := fun _ => ⟨false, rfl, rfl⟩
theorem usedM_set {m : List (Int × Value)} {pre : List Dev} {x : Dev} (h : UsedM m pre) (hr : rightD x = true) (hu : usedD pre x.key = false) : UsedM (setM x.key (.bool (!x.gone)) m) (pre ++ [x]) := by
  intro k
  rw [getM_set, usedD_snoc]
  by_cases hk : k = x.key
  · subst hk
    rw [if_pos rfl]
    refine ⟨!x.gone, rfl, ?_⟩
    rw [hu, Bool.false_or, right_key hr, Bool.eq_iff_iff]
    simp
  · rw [if_neg hk]
    obtain ⟨b, h1, h2⟩ := h k
    refine ⟨b, h1, ?_⟩
    rw [h2, show decide (k ≠ 0 ∧ x.key = k) = false from decide_eq_false (fun h => hk h.2.symm), Bool.or_false]
end Go.Dev
namespace Go.Sg
open Go.Rn Go.Proofs Go.Dev Go.Rec Go.Best Go.NT
attribute [local irreducible] Go.Rn.RetsX Go.Rn.RunLN Go.Rn.AsyN Go.Rn.RunL Go.Rn.RunE Go.Rn.Asy Go.Rn.OpV Go.Rn.OpE Go.Rn.ExecE
theorem dwithin_ok (n m : Int) (w : World) : Rets Tryd.prog 95 [.int .i64 n, .int .i64 m] w fun v w' => v = .bool (decide (0 ≤ n ∧ n ≤ m)) ∧ w = w' := by
  refine RetsX.of (nt := 12) Tryd.func95 (by kernel_rfl) rfl rfl (by simp) (by simp only [argEnv]; rfl) ?_
  repeat' (first | with_reducible refine RunLN.boolT rfl ?_ | with_reducible refine RunLN.boolF rfl ?_ | refine RunLN.boolT (by assumption) ?_ | refine RunLN.boolF (by assumption) ?_ | (with_reducible refine RunLN.decT ?_ ?_; focus omega) | (with_reducible refine RunLN.decF ?_ ?_; focus omega) | (with_reducible refine RunLN.eqT ?_ ?_; focus omega) | (with_reducible refine RunLN.eqF ?_ ?_; focus omega) | (with_reducible refine RunLN.neT ?_ ?_; focus omega) | (with_reducible refine RunLN.neF ?_ ?_; focus omega) | refine RunLN.boolT (by exact rfl) ?_ | refine RunLN.boolF (by exact rfl) ?_ | refine RunLN.int (by (first | exact wr_i64 (by omega) (by omega) | exact wm_i64 (by omega) | exact wq_i64 (by omega) (by omega) (by omega) | rfl)) ?_ | (refine RunLN.boolC (fun h_ => ?_) (fun h_ => ?_) <;> (try simp only [decide_eq_true_eq, decide_eq_false_iff_not, beq_iff_eq, bne_iff_ne, ne_eq, Bool.not_eq_true, Bool.not_eq_false, beq_eq_false_iff_ne, bne_eq_false_iff_eq, Bool.not_eq_eq_eq_not, Bool.not_true, Bool.not_false, Bool.not_not, Int.not_lt, Int.not_le, gt_iff_lt, ge_iff_le, Decidable.not_not] at h_)) | refine RunLN.any ?_ | refine RunL.ev Tryd.tOk rfl rfl rfl ?_ | refine RunL.unwantedD rfl rfl ?_ | refine RunL.unwantedN rfl ?_ | refine RunL.evV rfl rfl rfl (OpV.indexS Tryd.tOk _ rfl rfl rfl rfl (by omega)) ?_ | refine RunE.condT rfl rfl ?_ | refine RunE.condF rfl rfl ?_ | refine RunE.seq ?_ | refine RunE.region ?_ | refine RunL.nil ?_ | refine RunE.block ?_ | refine RunE.inBlock ?_ | refine RunE.skip ?_ | refine RunE.exit rfl ?_ | refine RunE.scope ?_ | refine RunE.inScope ?_ | refine RunE.label ?_)
  all_goals
    refine RunE.retFn Tryd.func95 (.tmp rfl .nil) ⟨?_, rfl⟩
    simp only [oneOr]
    congr 1
    first | exact (decide_eq_true (by omega)).symm | exact (decide_eq_false (by omega)).symm
set_option maxHeartbeats 2000000 in
set_option maxRecDepth 4000 in
theorem dright_ok (x : Dev) (w : World) : Rets Tryd.prog 66 [.agg x.cells.toArray] w fun v w' => v = .bool (rightD x) ∧ Ext w w' := by
  obtain ⟨no, at_, known, person, key, gone⟩ := x
  refine RetsX.of (nt := 38) Tryd.func66 (by kernel_rfl) rfl rfl (by simp) (by simp only [argEnv]; rfl) ?_
  have X := ExtB.refl (fun _ => False) w
  repeat' (first | with_reducible refine RunLN.boolT rfl ?_ | with_reducible refine RunLN.boolF rfl ?_ | refine RunLN.boolT (by assumption) ?_ | refine RunLN.boolF (by assumption) ?_ | (with_reducible refine RunLN.decT ?_ ?_; focus omega) | (with_reducible refine RunLN.decF ?_ ?_; focus omega) | (with_reducible refine RunLN.eqT ?_ ?_; focus omega) | (with_reducible refine RunLN.eqF ?_ ?_; focus omega) | (with_reducible refine RunLN.neT ?_ ?_; focus omega) | (with_reducible refine RunLN.neF ?_ ?_; focus omega) | refine RunLN.boolT (by exact rfl) ?_ | refine RunLN.boolF (by exact rfl) ?_ | refine RunLN.int (by (first | exact wr_i64 (by omega) (by omega) | exact wm_i64 (by omega) | exact wq_i64 (by omega) (by omega) (by omega) | rfl)) ?_ | (refine RunLN.boolC (fun h_ => ?_) (fun h_ => ?_) <;> (try simp only [decide_eq_true_eq, decide_eq_false_iff_not, beq_iff_eq, bne_iff_ne, ne_eq, Bool.not_eq_true, Bool.not_eq_false, beq_eq_false_iff_ne, bne_eq_false_iff_eq, Bool.not_eq_eq_eq_not, Bool.not_true, Bool.not_false, Bool.not_not, Int.not_lt, Int.not_le, gt_iff_lt, ge_iff_le, Decidable.not_not] at h_)) | refine RunLN.any ?_ | refine RunL.ev Tryd.tOk rfl rfl rfl ?_ | refine RunL.unwantedD rfl rfl ?_ | refine RunL.unwantedN rfl ?_ | refine RunL.evV rfl rfl rfl (OpV.indexS Tryd.tOk _ rfl rfl rfl rfl (by omega)) ?_ | refine RunE.condT rfl rfl ?_ | refine RunE.condF rfl rfl ?_ | refine RunE.seq ?_ | refine RunE.region ?_ | refine RunL.nil ?_ | refine RunE.block ?_ | refine RunE.inBlock ?_ | refine RunE.skip ?_ | refine RunE.exit rfl ?_ | refine RunE.scope ?_ | refine RunE.inScope ?_ | refine RunE.label ?_)
  refine RunL.box rfl rfl rfl fun B1 w1_ a_ => ?_
  have Z1 : Blk w1_ B1 (Dev.cells ⟨no, at_, known, person, key, gone⟩) 57 := a_.at_
  have gB1 := a_.ge X
  replace X := X.trans a_.ext
  clear a_
  by_cases hb : 0 ≤ no ∧ no ≤ 1048576 ∧ 0 ≤ at_ ∧ at_ < 1099511627776 ∧ 0 ≤ known ∧ known < 1099511627776 ∧ 0 ≤ person ∧ person < 64
  · have hR : rightD ⟨no, at_, known, person, key, gone⟩ = if gone then decide (key = 0) else validS key && decide (key ≠ 1) := by
      unfold rightD; simp only; rw [decide_eq_true hb, Bool.true_and]
    obtain ⟨b1, b2, b3, b4, b5, b6, b7, b8⟩ := hb
    rw [hR]
    cases gone with
    | true =>
      simp only [if_true]
      repeat' (first | with_reducible refine RunLN.boolT rfl ?_ | with_reducible refine RunLN.boolF rfl ?_ | refine RunLN.boolT (by assumption) ?_ | refine RunLN.boolF (by assumption) ?_ | (with_reducible refine RunLN.decT ?_ ?_; focus omega) | (with_reducible refine RunLN.decF ?_ ?_; focus omega) | (with_reducible refine RunLN.eqT ?_ ?_; focus omega) | (with_reducible refine RunLN.eqF ?_ ?_; focus omega) | (with_reducible refine RunLN.neT ?_ ?_; focus omega) | (with_reducible refine RunLN.neF ?_ ?_; focus omega) | refine RunLN.boolT (by exact rfl) ?_ | refine RunLN.boolF (by exact rfl) ?_ | refine RunLN.int (by (first | exact wr_i64 (by omega) (by omega) | exact wm_i64 (by omega) | exact wq_i64 (by omega) (by omega) (by omega) | rfl)) ?_ | (refine RunLN.boolC (fun h_ => ?_) (fun h_ => ?_) <;> (try simp only [decide_eq_true_eq, decide_eq_false_iff_not, beq_iff_eq, bne_iff_ne, ne_eq, Bool.not_eq_true, Bool.not_eq_false, beq_eq_false_iff_ne, bne_eq_false_iff_eq, Bool.not_eq_eq_eq_not, Bool.not_true, Bool.not_false, Bool.not_not, Int.not_lt, Int.not_le, gt_iff_lt, ge_iff_le, Decidable.not_not] at h_)) | refine RunLN.any ?_ | refine RunL.ev Tryd.tOk rfl rfl rfl ?_ | refine RunL.unwantedD rfl rfl ?_ | refine RunL.unwantedN rfl ?_ | refine RunL.evV rfl rfl rfl (OpV.load1 Tryd.tOk rfl rfl rfl (Blk.cell Z1 rfl)) ?_ | refine RunL.callN rfl rfl rfl (dwithin_ok _ _ _) ?_ | refine RunL.evV rfl rfl rfl (OpV.indexS Tryd.tOk _ rfl rfl rfl rfl (by omega)) ?_ | refine RunE.condT rfl rfl ?_ | refine RunE.condF rfl rfl ?_ | refine RunE.seq ?_ | refine RunE.region ?_ | refine RunL.nil ?_ | refine RunE.block ?_ | refine RunE.inBlock ?_ | refine RunE.skip ?_ | refine RunE.exit rfl ?_ | refine RunE.scope ?_ | refine RunE.inScope ?_ | refine RunE.label ?_)
      all_goals (first | (exfalso; omega) | skip)
      all_goals
        refine RunE.retFn Tryd.func66 (.tmp rfl .nil) ⟨?_, X⟩
        simp only [oneOr]
        congr 1
        first | exact (decide_eq_true (by omega)).symm | exact (decide_eq_false (by omega)).symm
    | false =>
      simp only [Bool.false_eq_true, if_false]
      have hval := fun w => valid_ok key w
      cases hv : validS key with
      | true =>
        rw [hv] at hval
        repeat' (first | with_reducible refine RunLN.boolT rfl ?_ | with_reducible refine RunLN.boolF rfl ?_ | refine RunLN.boolT (by assumption) ?_ | refine RunLN.boolF (by assumption) ?_ | (with_reducible refine RunLN.decT ?_ ?_; focus omega) | (with_reducible refine RunLN.decF ?_ ?_; focus omega) | (with_reducible refine RunLN.eqT ?_ ?_; focus omega) | (with_reducible refine RunLN.eqF ?_ ?_; focus omega) | (with_reducible refine RunLN.neT ?_ ?_; focus omega) | (with_reducible refine RunLN.neF ?_ ?_; focus omega) | refine RunLN.boolT (by exact rfl) ?_ | refine RunLN.boolF (by exact rfl) ?_ | refine RunLN.int (by (first | exact wr_i64 (by omega) (by omega) | exact wm_i64 (by omega) | exact wq_i64 (by omega) (by omega) (by omega) | rfl)) ?_ | (refine RunLN.boolC (fun h_ => ?_) (fun h_ => ?_) <;> (try simp only [decide_eq_true_eq, decide_eq_false_iff_not, beq_iff_eq, bne_iff_ne, ne_eq, Bool.not_eq_true, Bool.not_eq_false, beq_eq_false_iff_ne, bne_eq_false_iff_eq, Bool.not_eq_eq_eq_not, Bool.not_true, Bool.not_false, Bool.not_not, Int.not_lt, Int.not_le, gt_iff_lt, ge_iff_le, Decidable.not_not] at h_)) | refine RunLN.any ?_ | refine RunL.ev Tryd.tOk rfl rfl rfl ?_ | refine RunL.unwantedD rfl rfl ?_ | refine RunL.unwantedN rfl ?_ | refine RunL.evV rfl rfl rfl (OpV.load1 Tryd.tOk rfl rfl rfl (Blk.cell Z1 rfl)) ?_ | refine RunL.callN rfl rfl rfl (dwithin_ok _ _ _) ?_ | refine RunL.callN rfl rfl rfl (hval _) ?_ | refine RunL.evV rfl rfl rfl (OpV.indexS Tryd.tOk _ rfl rfl rfl rfl (by omega)) ?_ | refine RunE.condT rfl rfl ?_ | refine RunE.condF rfl rfl ?_ | refine RunE.seq ?_ | refine RunE.region ?_ | refine RunL.nil ?_ | refine RunE.block ?_ | refine RunE.inBlock ?_ | refine RunE.skip ?_ | refine RunE.exit rfl ?_ | refine RunE.scope ?_ | refine RunE.inScope ?_ | refine RunE.label ?_)
        all_goals (first | (exfalso; omega) | skip)
        all_goals
          refine RunE.retFn Tryd.func66 (.tmp rfl .nil) ⟨?_, X⟩
          simp only [oneOr, Bool.true_and]
          congr 1
          first | exact (decide_eq_true (by omega)).symm | exact (decide_eq_false (by omega)).symm
      | false =>
        rw [hv] at hval
        repeat' (first | with_reducible refine RunLN.boolT rfl ?_ | with_reducible refine RunLN.boolF rfl ?_ | refine RunLN.boolT (by assumption) ?_ | refine RunLN.boolF (by assumption) ?_ | (with_reducible refine RunLN.decT ?_ ?_; focus omega) | (with_reducible refine RunLN.decF ?_ ?_; focus omega) | (with_reducible refine RunLN.eqT ?_ ?_; focus omega) | (with_reducible refine RunLN.eqF ?_ ?_; focus omega) | (with_reducible refine RunLN.neT ?_ ?_; focus omega) | (with_reducible refine RunLN.neF ?_ ?_; focus omega) | refine RunLN.boolT (by exact rfl) ?_ | refine RunLN.boolF (by exact rfl) ?_ | refine RunLN.int (by (first | exact wr_i64 (by omega) (by omega) | exact wm_i64 (by omega) | exact wq_i64 (by omega) (by omega) (by omega) | rfl)) ?_ | (refine RunLN.boolC (fun h_ => ?_) (fun h_ => ?_) <;> (try simp only [decide_eq_true_eq, decide_eq_false_iff_not, beq_iff_eq, bne_iff_ne, ne_eq, Bool.not_eq_true, Bool.not_eq_false, beq_eq_false_iff_ne, bne_eq_false_iff_eq, Bool.not_eq_eq_eq_not, Bool.not_true, Bool.not_false, Bool.not_not, Int.not_lt, Int.not_le, gt_iff_lt, ge_iff_le, Decidable.not_not] at h_)) | refine RunLN.any ?_ | refine RunL.ev Tryd.tOk rfl rfl rfl ?_ | refine RunL.unwantedD rfl rfl ?_ | refine RunL.unwantedN rfl ?_ | refine RunL.evV rfl rfl rfl (OpV.load1 Tryd.tOk rfl rfl rfl (Blk.cell Z1 rfl)) ?_ | refine RunL.callN rfl rfl rfl (dwithin_ok _ _ _) ?_ | refine RunL.callN rfl rfl rfl (hval _) ?_ | refine RunL.evV rfl rfl rfl (OpV.indexS Tryd.tOk _ rfl rfl rfl rfl (by omega)) ?_ | refine RunE.condT rfl rfl ?_ | refine RunE.condF rfl rfl ?_ | refine RunE.seq ?_ | refine RunE.region ?_ | refine RunL.nil ?_ | refine RunE.block ?_ | refine RunE.inBlock ?_ | refine RunE.skip ?_ | refine RunE.exit rfl ?_ | refine RunE.scope ?_ | refine RunE.inScope ?_ | refine RunE.label ?_)
        all_goals first
          | (exfalso; omega)
          | exact RunE.retFn Tryd.func66 (.tmp rfl .nil) ⟨rfl, X⟩
  · have hR : rightD ⟨no, at_, known, person, key, gone⟩ = false := by
      unfold rightD; simp only; rw [decide_eq_false hb, Bool.false_and]
    rw [hR]
    repeat' (first | with_reducible refine RunLN.boolT rfl ?_ | with_reducible refine RunLN.boolF rfl ?_ | refine RunLN.boolT (by assumption) ?_ | refine RunLN.boolF (by assumption) ?_ | refine RunLN.boolT (by exact rfl) ?_ | refine RunLN.boolF (by exact rfl) ?_ | refine RunLN.int (by (first | exact wr_i64 (by omega) (by omega) | exact wm_i64 (by omega) | exact wq_i64 (by omega) (by omega) (by omega) | rfl)) ?_ | (refine RunLN.boolC (fun h_ => ?_) (fun h_ => ?_) <;> (try simp only [decide_eq_true_eq, decide_eq_false_iff_not, beq_iff_eq, bne_iff_ne, ne_eq, Bool.not_eq_true, Bool.not_eq_false, beq_eq_false_iff_ne, bne_eq_false_iff_eq, Bool.not_eq_eq_eq_not, Bool.not_true, Bool.not_false, Bool.not_not, Int.not_lt, Int.not_le, gt_iff_lt, ge_iff_le, Decidable.not_not] at h_)) | refine RunLN.any ?_ | refine RunL.ev Tryd.tOk rfl rfl rfl ?_ | refine RunL.unwantedD rfl rfl ?_ | refine RunL.unwantedN rfl ?_ | refine RunL.evV rfl rfl rfl (OpV.load1 Tryd.tOk rfl rfl rfl (Blk.cell Z1 rfl)) ?_ | refine RunL.callN rfl rfl rfl (dwithin_ok _ _ _) ?_ | refine RunL.evV rfl rfl rfl (OpV.indexS Tryd.tOk _ rfl rfl rfl rfl (by omega)) ?_ | refine RunE.condT rfl rfl ?_ | refine RunE.condF rfl rfl ?_ | refine RunE.seq ?_ | refine RunE.region ?_ | refine RunL.nil ?_ | refine RunE.block ?_ | refine RunE.inBlock ?_ | refine RunE.skip ?_ | refine RunE.exit rfl ?_ | refine RunE.scope ?_ | refine RunE.inScope ?_ | refine RunE.label ?_)
    all_goals first
      | exact RunE.retFn Tryd.func66 (.tmp rfl .nil) ⟨rfl, X⟩
      | (exfalso; omega)
end Go.Sg
end
section
/- The walks of package group, the rest. -/
namespace Go.Sg
open Go.Rn Go.NT Go.Proofs
def powC (a n : Int) : Int := if validS a then a ^ (n % 1073741789).toNat % 2147483579 else 0

theorem sq_pow (x : Int) (m : Nat) : (x * x % 2147483579) ^ m % 2147483579 = (x * x) ^ m % 2147483579 := pow_mod _ _ _
theorem pow_step1 (c x : Int) (m : Nat) (h : m % 2 = 1) : (c * x % 2147483579 * (x * x % 2147483579) ^ (m / 2)) % 2147483579 = c * x ^ m % 2147483579 := by
  have hn : m = 2 * (m / 2) + 1 := by omega
  have e : x ^ m = x * (x * x) ^ (m / 2) := by
    conv => lhs; rw [hn]
    rw [Int.pow_succ, Int.pow_mul, Int.mul_comm, show x ^ 2 = x * x by rw [Int.pow_succ, Int.pow_succ]; simp]
  rw [e, ← Int.mul_assoc]
  exact mul_mod_congr (by simp) (sq_pow x _)
theorem pow_step0 (c x : Int) (m : Nat) (h : m % 2 = 0) : (c * (x * x % 2147483579) ^ (m / 2)) % 2147483579 = c * x ^ m % 2147483579 := by
  have hn : m = 2 * (m / 2) := by omega
  have e : x ^ m = (x * x) ^ (m / 2) := by
    conv => lhs; rw [hn]
    rw [Int.pow_mul, show x ^ 2 = x * x by rw [Int.pow_succ, Int.pow_succ]; simp]
  rw [e]
  exact mul_mod_congr rfl (sq_pow x _)

set_option maxRecDepth 4000 in
theorem pow_ok (a n : Int) (w : World) :
    Rets Tryd.prog 25 [.int .i64 a, .int .i64 n] w fun v w' => v = .tuple #[.int .i64 (powC a n), .int .i64 (grpE (validS a))] ∧ Ext w w' := by
  refine RetsX.of (nt := 24) Tryd.func25 (by kernel_rfl) rfl rfl (by simp) (by simp only [argEnv]; rfl) ?_
  repeat (first | refine RunL.pureI Tryd.tOk rfl rfl rfl (by (first | exact wr_i64 (by omega) (by omega) | exact wm_i64 (by omega) | exact wq_i64 (by omega) (by omega) (by omega) | rfl)) ?_ | refine RunL.pure Tryd.tOk rfl rfl rfl ?_ | refine RunL.unwantedD rfl rfl ?_ | refine RunE.seq ?_ | refine RunE.region ?_ | refine RunL.nil ?_ | refine RunE.block ?_ | refine RunE.inBlock ?_ | refine RunE.skip ?_ | refine RunE.exit rfl ?_ | refine RunE.scope ?_ | refine RunE.inScope ?_ | refine RunE.label ?_)
  refine RunL.alloc Tryd.tOk rfl rfl rfl fun B w1 h1 => ?_
  repeat (first | refine RunL.pureI Tryd.tOk rfl rfl rfl (by (first | exact wr_i64 (by omega) (by omega) | exact wm_i64 (by omega) | exact wq_i64 (by omega) (by omega) (by omega) | rfl)) ?_ | refine RunL.pure Tryd.tOk rfl rfl rfl ?_ | refine RunL.unwantedD rfl rfl ?_ | refine RunE.seq ?_ | refine RunE.region ?_ | refine RunL.nil ?_ | refine RunE.block ?_ | refine RunE.inBlock ?_ | refine RunE.skip ?_ | refine RunE.exit rfl ?_ | refine RunE.scope ?_ | refine RunE.inScope ?_ | refine RunE.label ?_)
  refine RunL.call rfl rfl rfl (valid_ok _ _) ?_
  rintro v _ ⟨rfl, rfl⟩
  repeat (first | refine RunL.pureI Tryd.tOk rfl rfl rfl (by (first | exact wr_i64 (by omega) (by omega) | exact wm_i64 (by omega) | exact wq_i64 (by omega) (by omega) (by omega) | rfl)) ?_ | refine RunL.pure Tryd.tOk rfl rfl rfl ?_ | refine RunL.unwantedD rfl rfl ?_ | refine RunE.seq ?_ | refine RunE.region ?_ | refine RunL.nil ?_ | refine RunE.block ?_ | refine RunE.inBlock ?_ | refine RunE.skip ?_ | refine RunE.exit rfl ?_ | refine RunE.scope ?_ | refine RunE.inScope ?_ | refine RunE.label ?_)
  have hB1 : Blk w1 B [.int .i64 0] 3 := h1.at_
  cases hva : validS a with
  | false =>
    refine RunE.condT rfl rfl ?_
    repeat (first | refine RunL.pureI Tryd.tOk rfl rfl rfl (by (first | exact wr_i64 (by omega) (by omega) | exact wm_i64 (by omega) | exact wq_i64 (by omega) (by omega) (by omega) | rfl)) ?_ | refine RunL.pure Tryd.tOk rfl rfl rfl ?_ | refine RunL.unwantedD rfl rfl ?_ | refine RunE.seq ?_ | refine RunE.region ?_ | refine RunL.nil ?_ | refine RunE.block ?_ | refine RunE.inBlock ?_ | refine RunE.skip ?_ | refine RunE.exit rfl ?_ | refine RunE.scope ?_ | refine RunE.inScope ?_ | refine RunE.label ?_)
    refine RunL.store Tryd.tOk rfl rfl rfl rfl rfl hB1 rfl rfl ?_
    intro w2 h2
    repeat (first | refine RunL.pureI Tryd.tOk rfl rfl rfl (by (first | exact wr_i64 (by omega) (by omega) | exact wm_i64 (by omega) | exact wq_i64 (by omega) (by omega) (by omega) | rfl)) ?_ | refine RunL.pure Tryd.tOk rfl rfl rfl ?_ | refine RunL.unwantedD rfl rfl ?_ | refine RunE.seq ?_ | refine RunE.region ?_ | refine RunL.nil ?_ | refine RunE.block ?_ | refine RunE.inBlock ?_ | refine RunE.skip ?_ | refine RunE.exit rfl ?_ | refine RunE.scope ?_ | refine RunE.inScope ?_ | refine RunE.label ?_)
    have hB2 : Blk w2 B [.int .i64 0] 3 := h2.at_
    refine RunE.retFn Tryd.func25 (.cell rfl (Loads.scalar Tryd.tOk rfl rfl (hB2.cell rfl)) (.tmp rfl .nil)) ⟨?_, h1.ext.write h2.ext fun i e hi => by have := h1.eq; omega⟩
    simp [oneOr, powC, hva, grpE]
  | true =>
    have hva' := hva
    simp only [validS, decide_eq_true_eq] at hva'
    obtain ⟨ha0, ha1, _⟩ := hva'
    refine RunE.condF rfl rfl ?_
    repeat (first | refine RunL.pureI Tryd.tOk rfl rfl rfl (by (first | exact wr_i64 (by omega) (by omega) | exact wm_i64 (by omega) | exact wq_i64 (by omega) (by omega) (by omega) | rfl)) ?_ | refine RunL.pure Tryd.tOk rfl rfl rfl ?_ | refine RunL.unwantedD rfl rfl ?_ | refine RunE.seq ?_ | refine RunE.region ?_ | refine RunL.nil ?_ | refine RunE.block ?_ | refine RunE.inBlock ?_ | refine RunE.skip ?_ | refine RunE.exit rfl ?_ | refine RunE.scope ?_ | refine RunE.inScope ?_ | refine RunE.label ?_)
    refine RunL.store Tryd.tOk rfl rfl rfl rfl rfl hB1 rfl rfl ?_
    intro w2 h2
    have hB2 : Blk w2 B [.int .i64 1] 3 := h2.at_
    have x2 : Ext w w2 := h1.ext.write h2.ext fun i e hi => by have := h1.eq; omega
    repeat (first | refine RunL.pureI Tryd.tOk rfl rfl rfl (by (first | exact wr_i64 (by omega) (by omega) | exact wm_i64 (by omega) | exact wq_i64 (by omega) (by omega) (by omega) | rfl)) ?_ | refine RunL.pure Tryd.tOk rfl rfl rfl ?_ | refine RunL.unwantedD rfl rfl ?_ | refine RunE.seq ?_ | refine RunE.region ?_ | refine RunL.nil ?_ | refine RunE.block ?_ | refine RunE.inBlock ?_ | refine RunE.skip ?_ | refine RunE.exit rfl ?_ | refine RunE.scope ?_ | refine RunE.inScope ?_ | refine RunE.label ?_)
    refine RunL.buildSlice Tryd.tOk rfl rfl rfl rfl rfl rfl rfl rfl fun B3 w3 h3 => ?_
    refine RunL.call rfl rfl rfl (least_ok [n] B3 0 1 w3 (Blk.row (show Blk w3 B3 [.int .i64 n] 3 from h3.at_)) (by simp)) ?_
    rintro v _ ⟨rfl, rfl⟩
    rw [least1]
    refine RunL.call rfl rfl rfl (squares_ok _ _ _) ?_
    rintro v w4 ⟨rfl, hA4, hN4, x4, s4⟩
    have hB4 := (hB2.ext h3.ext id).ext x4 id
    repeat (first | refine RunL.pureI Tryd.tOk rfl rfl rfl (by (first | exact wr_i64 (by omega) (by omega) | exact wm_i64 (by omega) | exact wq_i64 (by omega) (by omega) (by omega) | rfl)) ?_ | refine RunL.pure Tryd.tOk rfl rfl rfl ?_ | refine RunL.unwantedD rfl rfl ?_ | refine RunE.seq ?_ | refine RunE.region ?_ | refine RunL.nil ?_ | refine RunE.block ?_ | refine RunE.inBlock ?_ | refine RunE.skip ?_ | refine RunE.exit rfl ?_ | refine RunE.scope ?_ | refine RunE.inScope ?_ | refine RunE.label ?_)
    have x4' : Ext w w4 := (x2.trans h3.ext).trans x4
    have eB := h1.eq
    have e3 := h3.eq
    have s3 := h3.size
    have s1 := h1.size
    have s2 := h2.size
    refine RunE.rangeFunc rfl rfl fun fa D L w5 w6 lp hst h5 h6 hlp => ?_
    have e5 := h5.eq
    have s5 := h5.size
    have e6 := h6.eq
    have hA6 := (hA4.ext h5.ext id).ext h6.ext id
    have hN6 := (hN4.ext h5.ext id).ext h6.ext id
    have hB6 := (hB4.ext h5.ext id).ext h6.ext id
    have hD6 : w6.heap[D]? = some (.deferred (some [])) := by rw [h6.ext.block D (by omega) id]; exact h5.at_
    have x6 := (x4'.trans h5.ext).trans h6.ext
    have hq := Int.emod_nonneg n (by decide : (1073741789 : Int) ≠ 0)
    have hq' := Int.emod_lt_of_pos n (by decide : (0 : Int) < 1073741789)
    have H := squares1_ok w3.heap.size (w3.heap.size + 1) (yieldV L)
      (fun x m w' => ∃ cv, Blk w' B [.int .i64 cv] 3 ∧ 0 ≤ cv ∧ cv < 2147483579 ∧ cv * x ^ m.toNat % 2147483579 = a ^ (n % 1073741789).toNat % 2147483579 ∧
        w'.heap[L]? = some (.loop lp) ∧ w'.heap[D]? = some (.deferred (some [])) ∧ Ext w w') (by omega)
      (by
        rintro x m u u' ⟨cv, hb, h0, h1', he, hl, hd, hx⟩ hext
        exact ⟨cv, hb.ext hext (by omega), h0, h1', he, by rw [hext.block L (lt_of_get hl) (by omega)]; exact hl, by rw [hext.block D (lt_of_get hd) (by omega)]; exact hd, hx.write hext fun i e hi => by omega⟩)
      (by
        rintro x m u ⟨cv, hb, h0, h1', he, hl, hd, hx⟩ hx0 hx1 hm hm1 hA hN
        refine Yield.run hl ⟨_, Tryd.func25⟩ hst hlp rfl rfl rfl ?_
        repeat (first | refine RunL.pureI Tryd.tOk rfl rfl rfl (by (first | exact wr_i64 (by omega) (by omega) | exact wm_i64 (by omega) | exact wq_i64 (by omega) (by omega) (by omega) | rfl)) ?_ | refine RunL.pure Tryd.tOk rfl rfl rfl ?_ | refine RunL.unwantedD rfl rfl ?_ | refine RunE.seq ?_ | refine RunE.region ?_ | refine RunL.nil ?_ | refine RunE.block ?_ | refine RunE.inBlock ?_ | refine RunE.skip ?_ | refine RunE.exit rfl ?_ | refine RunE.scope ?_ | refine RunE.inScope ?_ | refine RunE.label ?_)
        refine RunE.beginRound hl hlp.state fun u1 t1 => ?_
        have hb1 := hb.ext t1.ext (by omega)
        have hA1 := hA.ext t1.ext (by omega)
        have hN1 := hN.ext t1.ext (by omega)
        have hd1 : u1.heap[D]? = some (.deferred (some [])) := by rw [t1.ext.block D (lt_of_get hd) (by omega)]; exact hd
        have hx1' := hx.write t1.ext fun i e hi => by omega
        repeat (first | refine RunL.pureI Tryd.tOk rfl rfl rfl (by (first | exact wr_i64 (by omega) (by omega) | exact wm_i64 (by omega) | exact wq_i64 (by omega) (by omega) (by omega) | rfl)) ?_ | refine RunL.pure Tryd.tOk rfl rfl rfl ?_ | refine RunL.unwantedD rfl rfl ?_ | refine RunE.seq ?_ | refine RunE.region ?_ | refine RunL.nil ?_ | refine RunE.block ?_ | refine RunE.inBlock ?_ | refine RunE.skip ?_ | refine RunE.exit rfl ?_ | refine RunE.scope ?_ | refine RunE.inScope ?_ | refine RunE.label ?_)
        refine RunE.cond rfl (fun hodd => ?_) (fun hodd => ?_)
        · have hmb := mulmod_bd h0 h1' hx0 hx1
          repeat (first | refine RunL.pureI Tryd.tOk rfl rfl rfl (by (first | exact wr_i64 (by omega) (by omega) | exact wm_i64 (by omega) | exact wq_i64 (by omega) (by omega) (by omega) | rfl)) ?_ | refine RunL.pure Tryd.tOk rfl rfl rfl ?_ | refine RunL.unwantedD rfl rfl ?_ | refine RunE.seq ?_ | refine RunE.region ?_ | refine RunL.nil ?_ | refine RunE.block ?_ | refine RunE.inBlock ?_ | refine RunE.skip ?_ | refine RunE.exit rfl ?_ | refine RunE.scope ?_ | refine RunE.inScope ?_ | refine RunE.label ?_)
          refine RunL.load rfl rfl rfl (Loads.scalar Tryd.tOk rfl rfl (hb1.cell rfl)) ?_
          repeat (first | refine RunL.pureI Tryd.tOk rfl rfl rfl (by (first | exact wr_i64 (by omega) (by omega) | exact wm_i64 (by omega) | exact wq_i64 (by omega) (by omega) (by omega) | rfl)) ?_ | refine RunL.pure Tryd.tOk rfl rfl rfl ?_ | refine RunL.unwantedD rfl rfl ?_ | refine RunE.seq ?_ | refine RunE.region ?_ | refine RunL.nil ?_ | refine RunE.block ?_ | refine RunE.inBlock ?_ | refine RunE.skip ?_ | refine RunE.exit rfl ?_ | refine RunE.scope ?_ | refine RunE.inScope ?_ | refine RunE.label ?_)
          refine RunL.store Tryd.tOk rfl rfl rfl rfl rfl hb1 rfl rfl ?_
          intro u2 t2
          repeat (first | refine RunL.pureI Tryd.tOk rfl rfl rfl (by (first | exact wr_i64 (by omega) (by omega) | exact wm_i64 (by omega) | exact wq_i64 (by omega) (by omega) (by omega) | rfl)) ?_ | refine RunL.pure Tryd.tOk rfl rfl rfl ?_ | refine RunL.unwantedD rfl rfl ?_ | refine RunE.seq ?_ | refine RunE.region ?_ | refine RunL.nil ?_ | refine RunE.block ?_ | refine RunE.inBlock ?_ | refine RunE.skip ?_ | refine RunE.exit rfl ?_ | refine RunE.scope ?_ | refine RunE.inScope ?_ | refine RunE.label ?_)
          refine RunE.nil fun _ _ => ⟨_, by rw [t2.ext.block L (lt_of_get t1.at_) (by omega)]; exact t1.at_, fun u3 t3 => ?_⟩
          rw [hlp.back] at t3
          have hA3 := (hA1.ext t2.ext (by omega)).ext t3.ext (by omega)
          have hN3 := (hN1.ext t2.ext (by omega)).ext t3.ext (by omega)
          have hb2 : Blk u2 B [.int .i64 (cv * x % 2147483579)] 3 := t2.at_
          refine ⟨rfl, ⟨cv * x % 2147483579, hb2.ext t3.ext (by omega), by omega, by omega, ?_, t3.at_, ?_, ?_⟩, hA3, hN3⟩
          · rw [← he, show (m / 2).toNat = m.toNat / 2 by omega]
            exact pow_step1 _ _ _ (by simp at hodd; omega)
          · rw [t3.ext.block D (by have := lt_of_get hd1; have := t2.size; omega) (by omega), t2.ext.block D (lt_of_get hd1) (by omega)]; exact hd1
          · exact (hx1'.write t2.ext fun i e hi => by omega).write t3.ext fun i e hi => by omega
        · repeat (first | refine RunL.pureI Tryd.tOk rfl rfl rfl (by (first | exact wr_i64 (by omega) (by omega) | exact wm_i64 (by omega) | exact wq_i64 (by omega) (by omega) (by omega) | rfl)) ?_ | refine RunL.pure Tryd.tOk rfl rfl rfl ?_ | refine RunL.unwantedD rfl rfl ?_ | refine RunE.seq ?_ | refine RunE.region ?_ | refine RunL.nil ?_ | refine RunE.block ?_ | refine RunE.inBlock ?_ | refine RunE.skip ?_ | refine RunE.exit rfl ?_ | refine RunE.scope ?_ | refine RunE.inScope ?_ | refine RunE.label ?_)
          refine RunE.nil fun _ _ => ⟨_, t1.at_, fun u3 t3 => ?_⟩
          rw [hlp.back] at t3
          refine ⟨rfl, ⟨cv, hb1.ext t3.ext (by omega), h0, h1', ?_, t3.at_, ?_, ?_⟩, hA1.ext t3.ext (by omega), hN1.ext t3.ext (by omega)⟩
          · rw [← he, show (m / 2).toNat = m.toNat / 2 by omega]
            exact pow_step0 _ _ _ (by simp at hodd; omega)
          · rw [t3.ext.block D (lt_of_get hd1) (by omega)]; exact hd1
          · exact hx1'.write t3.ext fun i e hi => by omega)
      a (n % 1073741789) w6 (by omega) (by omega) hq (by omega) hA6 hN6 ⟨1, hB6, by decide, by decide, by simp, h6.at_, hD6, x6⟩
    refine (RetsX.v (fi := []) (args := [yieldV L]) (ca := [.pointer (some ⟨w3.heap.size + 1, 0, none⟩), .pointer (some ⟨w3.heap.size, 0, none⟩)]) H).mono ?_ (fun _ _ h => h)
    rintro _ w7 ⟨x, cv, hb7, h0, h1', he, hl7, hd7, x7⟩
    refine ⟨lp, hl7, by rw [hlp.state]; rfl, fun w8 t8 => ?_⟩
    rw [hlp.pending]
    refine RunE.at_ hst ?_
    have hb8 := hb7.ext t8.ext (by omega)
    have hd8 : w8.heap[D]? = some (.deferred (some [])) := by rw [t8.ext.block D (lt_of_get hd7) (by omega)]; exact hd7
    have x8 : Ext w w8 := x7.write t8.ext fun i e hi => by omega
    simp only [Option.map_none, Option.toList_none, List.nil_append]
    repeat (first | refine RunL.pureI Tryd.tOk rfl rfl rfl (by (first | exact wr_i64 (by omega) (by omega) | exact wm_i64 (by omega) | exact wq_i64 (by omega) (by omega) (by omega) | rfl)) ?_ | refine RunL.pure Tryd.tOk rfl rfl rfl ?_ | refine RunL.unwantedD rfl rfl ?_ | refine RunE.seq ?_ | refine RunE.region ?_ | refine RunL.nil ?_ | refine RunE.block ?_ | refine RunE.inBlock ?_ | refine RunE.skip ?_ | refine RunE.exit rfl ?_ | refine RunE.scope ?_ | refine RunE.inScope ?_ | refine RunE.label ?_)
    refine RunL.load rfl rfl rfl (Loads.scalar Tryd.tOk rfl rfl (hb8.cell rfl)) ?_
    refine RunL.store Tryd.tOk rfl rfl rfl rfl rfl hb8 rfl rfl ?_
    intro w9 t9
    have hb9 : Blk w9 B [.int .i64 cv] 3 := t9.at_
    have hd9 : w9.heap[D]? = some (.deferred (some [])) := by rw [t9.ext.block D (lt_of_get hd8) (by omega)]; exact hd8
    repeat (first | refine RunL.pureI Tryd.tOk rfl rfl rfl (by (first | exact wr_i64 (by omega) (by omega) | exact wm_i64 (by omega) | exact wq_i64 (by omega) (by omega) (by omega) | rfl)) ?_ | refine RunL.pure Tryd.tOk rfl rfl rfl ?_ | refine RunL.unwantedD rfl rfl ?_ | refine RunE.seq ?_ | refine RunE.region ?_ | refine RunL.nil ?_ | refine RunE.block ?_ | refine RunE.inBlock ?_ | refine RunE.skip ?_ | refine RunE.exit rfl ?_ | refine RunE.scope ?_ | refine RunE.inScope ?_ | refine RunE.label ?_)
    refine RunE.retFn1 Tryd.func25 hd9 fun w10 t10 => ⟨_, .cell rfl (Loads.scalar Tryd.tOk rfl rfl ((hb9.ext t10.ext (by omega)).cell rfl)) (.tmp rfl .nil), ?_, ?_⟩
    · simp only [oneOr, powC, hva, grpE, if_true]
      rw [← he]
      simp
      exact (Int.emod_eq_of_lt h0 h1').symm
    · exact (x8.write t9.ext fun i e hi => by omega).write t10.ext fun i e hi => by omega
end Go.Sg
end
section
/- The walks of package signatoryref10. -/
namespace Go.Sg
open Go.Rn Go.NT Go.Proofs

theorem r10_exponent_ok (n : Int) (w : World) : Rets Tryd.prog 113 [.int .i64 n] w fun v w' => v = .int .i64 (n % 1073741789) ∧ w = w' := by
  have h1 := tmod_cases n 1073741789 (by decide)
  refine RetsX.of (nt := 10) Tryd.func113 (by kernel_rfl) rfl rfl (by simp) (by simp only [argEnv]; rfl) ?_
  repeat (first | refine RunL.pureI Tryd.tOk rfl rfl rfl (by (first | exact wr_i64 (by omega) (by omega) | exact wm_i64 (by omega) | exact wq_i64 (by omega) (by omega) (by omega) | rfl)) ?_ | refine RunL.pure Tryd.tOk rfl rfl rfl ?_ | refine RunL.unwantedD rfl rfl ?_ | refine RunE.seq ?_ | refine RunE.region ?_ | refine RunL.nil ?_ | refine RunE.block ?_ | refine RunE.inBlock ?_ | refine RunE.skip ?_ | refine RunE.exit rfl ?_ | refine RunE.scope ?_ | refine RunE.inScope ?_ | refine RunE.label ?_)
  refine RunE.cond rfl (fun h => ?_) (fun h => ?_) <;> (first | replace h := of_decide_eq_true h | replace h := of_decide_eq_false h | replace h := beq_iff_eq.1 h | replace h := beq_eq_false_iff_ne.1 h | replace h := bne_iff_ne.1 h | replace h := bne_eq_false_iff_eq.1 h | skip)
  · repeat (first | refine RunL.pureI Tryd.tOk rfl rfl rfl (by (first | exact wr_i64 (by omega) (by omega) | exact wm_i64 (by omega) | exact wq_i64 (by omega) (by omega) (by omega) | rfl)) ?_ | refine RunL.pure Tryd.tOk rfl rfl rfl ?_ | refine RunL.unwantedD rfl rfl ?_ | refine RunE.seq ?_ | refine RunE.region ?_ | refine RunL.nil ?_ | refine RunE.block ?_ | refine RunE.inBlock ?_ | refine RunE.skip ?_ | refine RunE.exit rfl ?_ | refine RunE.scope ?_ | refine RunE.inScope ?_ | refine RunE.label ?_)
    refine RunE.retFn Tryd.func113 (.tmp rfl .nil) ⟨?_, rfl⟩
    simp only [oneOr]
    congr 1; omega
  · repeat (first | refine RunL.pureI Tryd.tOk rfl rfl rfl (by (first | exact wr_i64 (by omega) (by omega) | exact wm_i64 (by omega) | exact wq_i64 (by omega) (by omega) (by omega) | rfl)) ?_ | refine RunL.pure Tryd.tOk rfl rfl rfl ?_ | refine RunL.unwantedD rfl rfl ?_ | refine RunE.seq ?_ | refine RunE.region ?_ | refine RunL.nil ?_ | refine RunE.block ?_ | refine RunE.inBlock ?_ | refine RunE.skip ?_ | refine RunE.exit rfl ?_ | refine RunE.scope ?_ | refine RunE.inScope ?_ | refine RunE.label ?_)
    refine RunE.retFn Tryd.func113 (.tmp rfl .nil) ⟨?_, rfl⟩
    simp only [oneOr]
    congr 1; omega

theorem r10_power_ok (a n : Int) (w : World) (ha : 0 ≤ a) (ha' : a < 2147483579) (hn : 0 ≤ n) (hn' : n < 9223372036854775808) :
    Rets Tryd.prog 112 [.int .i64 a, .int .i64 n] w fun v w' => v = .int .i64 (a ^ n.toNat % 2147483579) ∧ w = w' := by
  refine RetsX.of (nt := 22) Tryd.func112 (by kernel_rfl) rfl rfl (by simp) (by simp only [argEnv]; rfl) ?_
  repeat (first | refine RunL.pureI Tryd.tOk rfl rfl rfl (by (first | exact wr_i64 (by omega) (by omega) | exact wm_i64 (by omega) | exact wq_i64 (by omega) (by omega) (by omega) | rfl)) ?_ | refine RunL.pure Tryd.tOk rfl rfl rfl ?_ | refine RunL.unwantedD rfl rfl ?_ | refine RunE.seq ?_ | refine RunE.region ?_ | refine RunL.nil ?_ | refine RunE.block ?_ | refine RunE.inBlock ?_ | refine RunE.skip ?_ | refine RunE.exit rfl ?_ | refine RunE.scope ?_ | refine RunE.inScope ?_ | refine RunE.label ?_)
  refine RunE.loop (ι := Int × Int × Int) (fun x => [(0, .int .i64 x.2.1), (1, .int .i64 x.2.2), (5, .int .i64 x.1)])
    (fun x w' => w = w' ∧ 0 ≤ x.1 ∧ x.1 < 2147483579 ∧ 0 ≤ x.2.1 ∧ x.2.1 < 2147483579 ∧ 0 ≤ x.2.2 ∧ x.2.2 < 9223372036854775808 ∧ x.1 * x.2.1 ^ x.2.2.toNat % 2147483579 = a ^ n.toNat % 2147483579)
    (fun x => x.2.2.toNat) (1, a, n) (by repeat (first | exact Sub.nil _ | refine Sub.cons rfl ?_)) ⟨rfl, (by decide : (0 : Int) ≤ 1), (by decide : (1 : Int) < 2147483579), ha, ha', hn, hn', by simp⟩ ?_
  rintro ⟨c, a1, m⟩ _ ⟨rfl, hc, hc', hA, hA', hm, hm', hp⟩ IH
  dsimp only at hc hc' hA hA' hm hm' hp ⊢
  repeat (first | refine RunL.pureI Tryd.tOk rfl rfl rfl (by (first | exact wr_i64 (by omega) (by omega) | exact wm_i64 (by omega) | exact wq_i64 (by omega) (by omega) (by omega) | rfl)) ?_ | refine RunL.pure Tryd.tOk rfl rfl rfl ?_ | refine RunL.unwantedD rfl rfl ?_ | refine RunE.seq ?_ | refine RunE.region ?_ | refine RunL.nil ?_ | refine RunE.block ?_ | refine RunE.inBlock ?_ | refine RunE.skip ?_ | refine RunE.exit rfl ?_ | refine RunE.scope ?_ | refine RunE.inScope ?_ | refine RunE.label ?_)
  refine RunE.cond rfl (fun h => ?_) (fun h => ?_) <;> (first | replace h := of_decide_eq_true h | replace h := of_decide_eq_false h | replace h := beq_iff_eq.1 h | replace h := beq_eq_false_iff_ne.1 h | replace h := bne_iff_ne.1 h | replace h := bne_eq_false_iff_eq.1 h | skip)
  · have hb := mulmod_bd hc hc' hA hA'
    have hb2 := mulmod_bd hA hA' hA hA'
    repeat (first | refine RunL.pureI Tryd.tOk rfl rfl rfl (by (first | exact wr_i64 (by omega) (by omega) | exact wm_i64 (by omega) | exact wq_i64 (by omega) (by omega) (by omega) | rfl)) ?_ | refine RunL.pure Tryd.tOk rfl rfl rfl ?_ | refine RunL.unwantedD rfl rfl ?_ | refine RunE.seq ?_ | refine RunE.region ?_ | refine RunL.nil ?_ | refine RunE.block ?_ | refine RunE.inBlock ?_ | refine RunE.skip ?_ | refine RunE.exit rfl ?_ | refine RunE.scope ?_ | refine RunE.inScope ?_ | refine RunE.label ?_)
    refine RunE.cond rfl (fun h2 => ?_) (fun h2 => ?_) <;> (first | replace h2 := of_decide_eq_true h2 | replace h2 := of_decide_eq_false h2 | replace h2 := beq_iff_eq.1 h2 | replace h2 := beq_eq_false_iff_ne.1 h2 | replace h2 := bne_iff_ne.1 h2 | replace h2 := bne_eq_false_iff_eq.1 h2 | skip)
    · repeat (first | refine RunL.pureI Tryd.tOk rfl rfl rfl (by (first | exact wr_i64 (by omega) (by omega) | exact wm_i64 (by omega) | exact wq_i64 (by omega) (by omega) (by omega) | rfl)) ?_ | refine RunL.pure Tryd.tOk rfl rfl rfl ?_ | refine RunL.unwantedD rfl rfl ?_ | refine RunE.seq ?_ | refine RunE.region ?_ | refine RunL.nil ?_ | refine RunE.block ?_ | refine RunE.inBlock ?_ | refine RunE.skip ?_ | refine RunE.exit rfl ?_ | refine RunE.scope ?_ | refine RunE.inScope ?_ | refine RunE.label ?_)
      refine RunE.weaken (by repeat (first | exact Sub.nil _ | refine Sub.cons rfl ?_)) (IH (c * a1 % 2147483579, a1 * a1 % 2147483579, m / 2) _ (by simp only; omega) ⟨rfl, by simp only; omega, by simp only; omega, by simp only; omega, by simp only; omega, by simp only; omega, by simp only; omega, ?_⟩)
      simp only
      rw [← hp, show (m / 2).toNat = m.toNat / 2 by omega]
      exact pow_step1 _ _ _ (by omega)
    · repeat (first | refine RunL.pureI Tryd.tOk rfl rfl rfl (by (first | exact wr_i64 (by omega) (by omega) | exact wm_i64 (by omega) | exact wq_i64 (by omega) (by omega) (by omega) | rfl)) ?_ | refine RunL.pure Tryd.tOk rfl rfl rfl ?_ | refine RunL.unwantedD rfl rfl ?_ | refine RunE.seq ?_ | refine RunE.region ?_ | refine RunL.nil ?_ | refine RunE.block ?_ | refine RunE.inBlock ?_ | refine RunE.skip ?_ | refine RunE.exit rfl ?_ | refine RunE.scope ?_ | refine RunE.inScope ?_ | refine RunE.label ?_)
      refine RunE.weaken (by repeat (first | exact Sub.nil _ | refine Sub.cons rfl ?_)) (IH (c, a1 * a1 % 2147483579, m / 2) _ (by simp only; omega) ⟨rfl, by simp only; omega, by simp only; omega, by simp only; omega, by simp only; omega, by simp only; omega, by simp only; omega, ?_⟩)
      simp only
      rw [← hp, show (m / 2).toNat = m.toNat / 2 by omega]
      exact pow_step0 _ _ _ (by omega)
  · repeat (first | refine RunL.pureI Tryd.tOk rfl rfl rfl (by (first | exact wr_i64 (by omega) (by omega) | exact wm_i64 (by omega) | exact wq_i64 (by omega) (by omega) (by omega) | rfl)) ?_ | refine RunL.pure Tryd.tOk rfl rfl rfl ?_ | refine RunL.unwantedD rfl rfl ?_ | refine RunE.seq ?_ | refine RunE.region ?_ | refine RunL.nil ?_ | refine RunE.block ?_ | refine RunE.inBlock ?_ | refine RunE.skip ?_ | refine RunE.exit rfl ?_ | refine RunE.scope ?_ | refine RunE.inScope ?_ | refine RunE.label ?_)
    refine RunE.retFn Tryd.func112 (.tmp rfl .nil) ⟨?_, rfl⟩
    simp only [oneOr]
    congr 1
    obtain rfl : m = 0 := by omega
    rw [← hp]; simp; exact (Int.emod_eq_of_lt hc hc').symm

theorem r10_valid_ok (x : Int) (w : World) : Rets Tryd.prog 98 [.int .i64 x] w fun v w' => v = .bool (validS x) ∧ w = w' := by
  refine RetsX.of (nt := 14) Tryd.func98 (by kernel_rfl) rfl rfl (by simp) (by simp only [argEnv]; rfl) ?_
  repeat (first | refine RunL.pureI Tryd.tOk rfl rfl rfl (by (first | exact wr_i64 (by omega) (by omega) | exact wm_i64 (by omega) | exact wq_i64 (by omega) (by omega) (by omega) | rfl)) ?_ | refine RunL.pure Tryd.tOk rfl rfl rfl ?_ | refine RunL.unwantedD rfl rfl ?_ | refine RunE.seq ?_ | refine RunE.region ?_ | refine RunL.nil ?_ | refine RunE.block ?_ | refine RunE.inBlock ?_ | refine RunE.skip ?_ | refine RunE.exit rfl ?_ | refine RunE.scope ?_ | refine RunE.inScope ?_ | refine RunE.label ?_)
  cases h1 : decide (x ≥ 1) with
  | false =>
    have h1' := of_decide_eq_false h1
    repeat (first | refine RunL.pureI Tryd.tOk rfl rfl rfl (by (first | exact wr_i64 (by omega) (by omega) | exact wm_i64 (by omega) | exact wq_i64 (by omega) (by omega) (by omega) | rfl)) ?_ | refine RunL.pure Tryd.tOk rfl rfl rfl ?_ | refine RunL.unwantedD rfl rfl ?_ | refine RunE.seq ?_ | refine RunE.region ?_ | refine RunL.nil ?_ | refine RunE.block ?_ | refine RunE.inBlock ?_ | refine RunE.skip ?_ | refine RunE.exit rfl ?_ | refine RunE.scope ?_ | refine RunE.inScope ?_ | refine RunE.label ?_)
    refine RunE.retFn Tryd.func98 (.tmp rfl .nil) ⟨?_, rfl⟩
    simp only [oneOr, validS]
    congr 1; exact (decide_eq_false (by omega)).symm
  | true =>
    have h1' := of_decide_eq_true h1
    repeat (first | refine RunL.pureI Tryd.tOk rfl rfl rfl (by (first | exact wr_i64 (by omega) (by omega) | exact wm_i64 (by omega) | exact wq_i64 (by omega) (by omega) (by omega) | rfl)) ?_ | refine RunL.pure Tryd.tOk rfl rfl rfl ?_ | refine RunL.unwantedD rfl rfl ?_ | refine RunE.seq ?_ | refine RunE.region ?_ | refine RunL.nil ?_ | refine RunE.block ?_ | refine RunE.inBlock ?_ | refine RunE.skip ?_ | refine RunE.exit rfl ?_ | refine RunE.scope ?_ | refine RunE.inScope ?_ | refine RunE.label ?_)
    cases h2 : decide (x < 2147483579) with
    | false =>
      have h2' := of_decide_eq_false h2
      repeat (first | refine RunL.pureI Tryd.tOk rfl rfl rfl (by (first | exact wr_i64 (by omega) (by omega) | exact wm_i64 (by omega) | exact wq_i64 (by omega) (by omega) (by omega) | rfl)) ?_ | refine RunL.pure Tryd.tOk rfl rfl rfl ?_ | refine RunL.unwantedD rfl rfl ?_ | refine RunE.seq ?_ | refine RunE.region ?_ | refine RunL.nil ?_ | refine RunE.block ?_ | refine RunE.inBlock ?_ | refine RunE.skip ?_ | refine RunE.exit rfl ?_ | refine RunE.scope ?_ | refine RunE.inScope ?_ | refine RunE.label ?_)
      refine RunE.retFn Tryd.func98 (.tmp rfl .nil) ⟨?_, rfl⟩
      simp only [oneOr, validS]
      congr 1; exact (decide_eq_false (by omega)).symm
    | true =>
      have h2' := of_decide_eq_true h2
      repeat (first | refine RunL.pureI Tryd.tOk rfl rfl rfl (by (first | exact wr_i64 (by omega) (by omega) | exact wm_i64 (by omega) | exact wq_i64 (by omega) (by omega) (by omega) | rfl)) ?_ | refine RunL.pure Tryd.tOk rfl rfl rfl ?_ | refine RunL.unwantedD rfl rfl ?_ | refine RunE.seq ?_ | refine RunE.region ?_ | refine RunL.nil ?_ | refine RunE.block ?_ | refine RunE.inBlock ?_ | refine RunE.skip ?_ | refine RunE.exit rfl ?_ | refine RunE.scope ?_ | refine RunE.inScope ?_ | refine RunE.label ?_)
      refine RunL.call rfl rfl rfl (r10_power_ok x 1073741789 w (by omega) h2' (by decide) (by decide)) ?_
      rintro _ _ ⟨rfl, rfl⟩
      repeat (first | refine RunL.pureI Tryd.tOk rfl rfl rfl (by (first | exact wr_i64 (by omega) (by omega) | exact wm_i64 (by omega) | exact wq_i64 (by omega) (by omega) (by omega) | rfl)) ?_ | refine RunL.pure Tryd.tOk rfl rfl rfl ?_ | refine RunL.unwantedD rfl rfl ?_ | refine RunE.seq ?_ | refine RunE.region ?_ | refine RunL.nil ?_ | refine RunE.block ?_ | refine RunE.inBlock ?_ | refine RunE.skip ?_ | refine RunE.exit rfl ?_ | refine RunE.scope ?_ | refine RunE.inScope ?_ | refine RunE.label ?_)
      refine RunE.retFn Tryd.func98 (.tmp rfl .nil) ⟨?_, rfl⟩
      simp only [oneOr, validS]
      congr 1
      have e : (1073741789 : Int).toNat = 1073741789 := by decide
      rw [e]
      generalize x ^ 1073741789 % 2147483579 = y
      by_cases hy : y = 1
      · subst hy; simp; omega
      · simp [hy]

theorem r10_mul_ok (a b : Int) (w : World) : Rets Tryd.prog 122 [.int .i64 a, .int .i64 b] w fun v w' => v = .tuple #[.int .i64 (mulC a b), .int .i64 (grpE (validS a && validS b))] ∧ w = w' := by
  refine RetsX.of (nt := 18) Tryd.func122 (by kernel_rfl) rfl rfl (by simp) (by simp only [argEnv]; rfl) ?_
  repeat (first | refine RunL.pureI Tryd.tOk rfl rfl rfl (by (first | exact wr_i64 (by omega) (by omega) | exact wm_i64 (by omega) | exact wq_i64 (by omega) (by omega) (by omega) | rfl)) ?_ | refine RunL.pure Tryd.tOk rfl rfl rfl ?_ | refine RunL.unwantedD rfl rfl ?_ | refine RunE.seq ?_ | refine RunE.region ?_ | refine RunL.nil ?_ | refine RunE.block ?_ | refine RunE.inBlock ?_ | refine RunE.skip ?_ | refine RunE.exit rfl ?_ | refine RunE.scope ?_ | refine RunE.inScope ?_ | refine RunE.label ?_)
  refine RunL.call rfl rfl rfl (r10_valid_ok _ _) ?_
  rintro _ _ ⟨rfl, rfl⟩
  cases ha : validS a with
  | false =>
    repeat (first | refine RunL.pureI Tryd.tOk rfl rfl rfl (by (first | exact wr_i64 (by omega) (by omega) | exact wm_i64 (by omega) | exact wq_i64 (by omega) (by omega) (by omega) | rfl)) ?_ | refine RunL.pure Tryd.tOk rfl rfl rfl ?_ | refine RunL.unwantedD rfl rfl ?_ | refine RunE.seq ?_ | refine RunE.region ?_ | refine RunL.nil ?_ | refine RunE.block ?_ | refine RunE.inBlock ?_ | refine RunE.skip ?_ | refine RunE.exit rfl ?_ | refine RunE.scope ?_ | refine RunE.inScope ?_ | refine RunE.label ?_)
    refine RunE.condT rfl rfl ?_
    repeat (first | refine RunL.pureI Tryd.tOk rfl rfl rfl (by (first | exact wr_i64 (by omega) (by omega) | exact wm_i64 (by omega) | exact wq_i64 (by omega) (by omega) (by omega) | rfl)) ?_ | refine RunL.pure Tryd.tOk rfl rfl rfl ?_ | refine RunL.unwantedD rfl rfl ?_ | refine RunE.seq ?_ | refine RunE.region ?_ | refine RunL.nil ?_ | refine RunE.block ?_ | refine RunE.inBlock ?_ | refine RunE.skip ?_ | refine RunE.exit rfl ?_ | refine RunE.scope ?_ | refine RunE.inScope ?_ | refine RunE.label ?_)
    exact RunE.retFn Tryd.func122 (.tmp rfl (.tmp rfl .nil)) ⟨by simp [oneOr, mulC, ha, grpE], rfl⟩
  | true =>
    repeat (first | refine RunL.pureI Tryd.tOk rfl rfl rfl (by (first | exact wr_i64 (by omega) (by omega) | exact wm_i64 (by omega) | exact wq_i64 (by omega) (by omega) (by omega) | rfl)) ?_ | refine RunL.pure Tryd.tOk rfl rfl rfl ?_ | refine RunL.unwantedD rfl rfl ?_ | refine RunE.seq ?_ | refine RunE.region ?_ | refine RunL.nil ?_ | refine RunE.block ?_ | refine RunE.inBlock ?_ | refine RunE.skip ?_ | refine RunE.exit rfl ?_ | refine RunE.scope ?_ | refine RunE.inScope ?_ | refine RunE.label ?_)
    refine RunL.call rfl rfl rfl (r10_valid_ok _ _) ?_
    rintro _ _ ⟨rfl, rfl⟩
    cases hb : validS b with
    | false =>
      repeat (first | refine RunL.pureI Tryd.tOk rfl rfl rfl (by (first | exact wr_i64 (by omega) (by omega) | exact wm_i64 (by omega) | exact wq_i64 (by omega) (by omega) (by omega) | rfl)) ?_ | refine RunL.pure Tryd.tOk rfl rfl rfl ?_ | refine RunL.unwantedD rfl rfl ?_ | refine RunE.seq ?_ | refine RunE.region ?_ | refine RunL.nil ?_ | refine RunE.block ?_ | refine RunE.inBlock ?_ | refine RunE.skip ?_ | refine RunE.exit rfl ?_ | refine RunE.scope ?_ | refine RunE.inScope ?_ | refine RunE.label ?_)
      refine RunE.condT rfl rfl ?_
      repeat (first | refine RunL.pureI Tryd.tOk rfl rfl rfl (by (first | exact wr_i64 (by omega) (by omega) | exact wm_i64 (by omega) | exact wq_i64 (by omega) (by omega) (by omega) | rfl)) ?_ | refine RunL.pure Tryd.tOk rfl rfl rfl ?_ | refine RunL.unwantedD rfl rfl ?_ | refine RunE.seq ?_ | refine RunE.region ?_ | refine RunL.nil ?_ | refine RunE.block ?_ | refine RunE.inBlock ?_ | refine RunE.skip ?_ | refine RunE.exit rfl ?_ | refine RunE.scope ?_ | refine RunE.inScope ?_ | refine RunE.label ?_)
      exact RunE.retFn Tryd.func122 (.tmp rfl (.tmp rfl .nil)) ⟨by simp [oneOr, mulC, ha, hb, grpE], rfl⟩
    | true =>
      have h1 := validS_inv ha
      have h2 := validS_inv hb
      have hm := mulmod_bd (by omega : 0 ≤ a) h1.2.1 (by omega : 0 ≤ b) h2.2.1
      clear h1 h2
      repeat (first | refine RunL.pureI Tryd.tOk rfl rfl rfl (by (first | exact wr_i64 (by omega) (by omega) | exact wm_i64 (by omega) | exact wq_i64 (by omega) (by omega) (by omega) | rfl)) ?_ | refine RunL.pure Tryd.tOk rfl rfl rfl ?_ | refine RunL.unwantedD rfl rfl ?_ | refine RunE.seq ?_ | refine RunE.region ?_ | refine RunL.nil ?_ | refine RunE.block ?_ | refine RunE.inBlock ?_ | refine RunE.skip ?_ | refine RunE.exit rfl ?_ | refine RunE.scope ?_ | refine RunE.inScope ?_ | refine RunE.label ?_)
      refine RunE.condF rfl rfl ?_
      repeat (first | refine RunL.pureI Tryd.tOk rfl rfl rfl (by (first | exact wr_i64 (by omega) (by omega) | exact wm_i64 (by omega) | exact wq_i64 (by omega) (by omega) (by omega) | rfl)) ?_ | refine RunL.pure Tryd.tOk rfl rfl rfl ?_ | refine RunL.unwantedD rfl rfl ?_ | refine RunE.seq ?_ | refine RunE.region ?_ | refine RunL.nil ?_ | refine RunE.block ?_ | refine RunE.inBlock ?_ | refine RunE.skip ?_ | refine RunE.exit rfl ?_ | refine RunE.scope ?_ | refine RunE.inScope ?_ | refine RunE.label ?_)
      exact RunE.retFn Tryd.func122 (.tmp rfl (.tmp rfl .nil)) ⟨by simp [oneOr, mulC, ha, hb, grpE], rfl⟩

theorem r10_pow_ok (a n : Int) (w : World) : Rets Tryd.prog 87 [.int .i64 a, .int .i64 n] w fun v w' => v = .tuple #[.int .i64 (powC a n), .int .i64 (grpE (validS a))] ∧ w = w' := by
  have hq := Int.emod_nonneg n (by decide : (1073741789 : Int) ≠ 0)
  have hq' := Int.emod_lt_of_pos n (by decide : (0 : Int) < 1073741789)
  refine RetsX.of (nt := 13) Tryd.func87 (by kernel_rfl) rfl rfl (by simp) (by simp only [argEnv]; rfl) ?_
  repeat (first | refine RunL.pureI Tryd.tOk rfl rfl rfl (by (first | exact wr_i64 (by omega) (by omega) | exact wm_i64 (by omega) | exact wq_i64 (by omega) (by omega) (by omega) | rfl)) ?_ | refine RunL.pure Tryd.tOk rfl rfl rfl ?_ | refine RunL.unwantedD rfl rfl ?_ | refine RunE.seq ?_ | refine RunE.region ?_ | refine RunL.nil ?_ | refine RunE.block ?_ | refine RunE.inBlock ?_ | refine RunE.skip ?_ | refine RunE.exit rfl ?_ | refine RunE.scope ?_ | refine RunE.inScope ?_ | refine RunE.label ?_)
  refine RunL.call rfl rfl rfl (r10_valid_ok _ _) ?_
  rintro _ _ ⟨rfl, rfl⟩
  repeat (first | refine RunL.pureI Tryd.tOk rfl rfl rfl (by (first | exact wr_i64 (by omega) (by omega) | exact wm_i64 (by omega) | exact wq_i64 (by omega) (by omega) (by omega) | rfl)) ?_ | refine RunL.pure Tryd.tOk rfl rfl rfl ?_ | refine RunL.unwantedD rfl rfl ?_ | refine RunE.seq ?_ | refine RunE.region ?_ | refine RunL.nil ?_ | refine RunE.block ?_ | refine RunE.inBlock ?_ | refine RunE.skip ?_ | refine RunE.exit rfl ?_ | refine RunE.scope ?_ | refine RunE.inScope ?_ | refine RunE.label ?_)
  cases ha : validS a with
  | false =>
    refine RunE.condT rfl rfl ?_
    repeat (first | refine RunL.pureI Tryd.tOk rfl rfl rfl (by (first | exact wr_i64 (by omega) (by omega) | exact wm_i64 (by omega) | exact wq_i64 (by omega) (by omega) (by omega) | rfl)) ?_ | refine RunL.pure Tryd.tOk rfl rfl rfl ?_ | refine RunL.unwantedD rfl rfl ?_ | refine RunE.seq ?_ | refine RunE.region ?_ | refine RunL.nil ?_ | refine RunE.block ?_ | refine RunE.inBlock ?_ | refine RunE.skip ?_ | refine RunE.exit rfl ?_ | refine RunE.scope ?_ | refine RunE.inScope ?_ | refine RunE.label ?_)
    exact RunE.retFn Tryd.func87 (.tmp rfl (.tmp rfl .nil)) ⟨by simp [oneOr, powC, ha, grpE], rfl⟩
  | true =>
    have h1 := validS_inv ha
    refine RunE.condF rfl rfl ?_
    repeat (first | refine RunL.pureI Tryd.tOk rfl rfl rfl (by (first | exact wr_i64 (by omega) (by omega) | exact wm_i64 (by omega) | exact wq_i64 (by omega) (by omega) (by omega) | rfl)) ?_ | refine RunL.pure Tryd.tOk rfl rfl rfl ?_ | refine RunL.unwantedD rfl rfl ?_ | refine RunE.seq ?_ | refine RunE.region ?_ | refine RunL.nil ?_ | refine RunE.block ?_ | refine RunE.inBlock ?_ | refine RunE.skip ?_ | refine RunE.exit rfl ?_ | refine RunE.scope ?_ | refine RunE.inScope ?_ | refine RunE.label ?_)
    refine RunL.call rfl rfl rfl (r10_exponent_ok _ _) ?_
    rintro _ _ ⟨rfl, rfl⟩
    refine RunL.call rfl rfl rfl (r10_power_ok _ _ w (by omega) h1.2.1 hq (by omega)) ?_
    rintro _ _ ⟨rfl, rfl⟩
    repeat (first | refine RunL.pureI Tryd.tOk rfl rfl rfl (by (first | exact wr_i64 (by omega) (by omega) | exact wm_i64 (by omega) | exact wq_i64 (by omega) (by omega) (by omega) | rfl)) ?_ | refine RunL.pure Tryd.tOk rfl rfl rfl ?_ | refine RunL.unwantedD rfl rfl ?_ | refine RunE.seq ?_ | refine RunE.region ?_ | refine RunL.nil ?_ | refine RunE.block ?_ | refine RunE.inBlock ?_ | refine RunE.skip ?_ | refine RunE.exit rfl ?_ | refine RunE.scope ?_ | refine RunE.inScope ?_ | refine RunE.label ?_)
    exact RunE.retFn Tryd.func87 (.tmp rfl (.tmp rfl .nil)) ⟨by simp [oneOr, powC, ha, grpE], rfl⟩
end Go.Sg
end
section
/- Operations of the library's slice functions. -/
namespace Go.Rn
open Go.RowKit Go.Lib Go.Rec
section
variable {P : Program} {w : World} {env : Env} {dst : Option Tmp} {ty : TypeId} {pos : String} {after : Array Edge} {guard : Option (Nat × Bool)}
/-- s == nil -/
theorem OpV.eqNilSl {t e u : TypeId} {x y : Operand} {d : Option Addr} {n c : Nat} (ht : P.underlying t = some (.slice e)) (hx : evO env x = some (.slice d n c)) (hy : evO env y = some (.slice none 0 0)) :
    OpV P env w ⟨dst, .binOp .eql t x y u, ty, pos, after, guard⟩ (.bool d.isNone) := by
  refine .of_run fun ρ hρ => ⟨_, by simp only [execOp, hρ _ _ hx, hρ _ _ hy]; rfl, ?_⟩
  rw [run_bind _ _ (run_eqGuard_plain .eql t x y (by intro c; simp) (by simp))]
  simp only [binOp]
  have : (Op.equal t (.slice d n c) (.slice none 0 0)).run P w = .ok d.isNone w := by
    unfold Op.equal; rw [show Op.maxDepth = 9999 + 1 from rfl, Op.equalIn, run_bind _ _ (run_underlying ht)]
    cases d <;> rfl
  rw [run_bind _ _ this]; rfl
/-- A call that the model answers itself. -/
theorem OpV.callX {g : FuncId} {args : Array Operand} {ts : Array TypeId} {vs : List Value} {v : Value} (ha : evL env args.toList = some vs) (hc : (callFunc g vs.toArray).run P w = .ok (.value v) w) :
    OpV P env w ⟨dst, .call ⟨.value (.func g), args, ts⟩, ty, pos, after, guard⟩ v := fun ρ hρ => by
  have e : args.map ρ = vs.toArray := evL_mapA hρ ha
  unfold execOp
  simp only
  rw [run_bind (v := { target := .fn (.func g) #[], args := vs.toArray }) (w' := w) _ _ ?_]
  · simp only [invoke]
    simpa using hc
  · simp only [resolve, Act.eval, e] <;> simp [Deferred.ofValue, hρ (.func g) _ rfl, Pure.pure]
theorem OpE.growOnto {T : Tab} (hT : T.Ok P) {t e ti : TypeId} {kt : IntKind} {sz : Nat} {ag : Bool} {s bb s' bb' : Nat} {z z' : List Value} {a u a' u' : Bool} {ie : TI} {x y : Operand} {kd : IntKind} {i : Int} {m g n cap : Nat} {olds : List Value}
    (ht : T.get t = some ⟨.slc sz ag e, s, bb, z, a, u⟩) (hti : T.get ti = some ⟨.int kt, s', bb', z', a', u'⟩) (he : T.get e = some ie) (hz : ie.zero.length = sz) (hsz : Nat.blt 0 sz = true)
    (hx : evO env x = some (.slice (some ⟨g, 0, none⟩) n cap)) (hy : evO env y = some (.int kd i)) (hi : i = (m : Int)) (hm : 0 < m) (hr : Row w g 0 olds) (hol : olds.length = n * sz) (hg : cap < n + m)
    (hb : (n + m) * ie.bytes ≤ 1000000000) (h63 : n + m ≤ 1000000000) :
    OpE P env w ⟨dst, .call ⟨.builtin .append, #[x, y], #[t, ti]⟩, ty, pos, after, guard⟩
      (fun v w' => ∃ B cap' rest, v = .slice (some ⟨B, 0, none⟩) (n + m) cap' ∧ n + m ≤ cap' ∧ B = w.heap.size ∧ Ext w w' ∧ Blk w' B (olds ++ rest) e ∧ rest.length = (cap' - n) * sz) fun _ _ => False := by
  obtain ⟨hu, hc'⟩ := TD.of_slc (TI.tdof (hT.get _ _ ht)).symm
  have hui := TD.of_int (TI.tdof (hT.get _ _ hti)).symm
  obtain ⟨j, dd, zv, hj, hd, hzv, h1, h2, h3, h4, h5, _⟩ := TI.inv (hT.get _ _ he)
  obtain ⟨ii, d', hii, hs', _, _⟩ := cellsAgg_inv hc'
  rw [hii] at hj; cases hj
  have hzs : zv.cells.size = sz := by rw [← hz, h3]; simp
  subst hi
  have hsz' : 0 < sz := by simpa [Nat.blt_eq] using hsz
  have hold : (Builtin.firstCells j.size n (.slice (some ⟨g, 0, none⟩) n cap)).run P w.drew = .ok olds.toArray w.drew := by
    rw [hs']
    exact run_firstCells (P := P) (w := w.drew) (fun i v hv => hr i v hv) hol
  have hfit : Builtin.nextslicecap (n + m) cap * j.bytes ≤ 281474976710656 := by
    rw [← h2]
    have := Nat.mul_le_mul_right ie.bytes (nextslicecap_le (need := n + m) (old := cap) (by omega))
    have e2 : 2 * (n + m) * ie.bytes = 2 * ((n + m) * ie.bytes) := Nat.mul_assoc _ _ _
    omega
  have hmb : m * j.bytes ≤ 281474976710656 := by
    rw [← h2]
    have := Nat.mul_le_mul_right ie.bytes (show m ≤ n + m by omega)
    omega
  have hrun := run_append_grow_zeros (P := P) w t ti ty e j zv kd kt hu hui hii hzv (some ⟨g, 0, none⟩) n cap olds hold m hm (by omega) hg (by omega) hmb hfit
  have hcap := grownCap_ge w (n + m) cap e
  refine .of_run (w' := _) (v := _) ?_ fun ρ hρ => ⟨_, by simp only [execOp, resolve, List.map_toArray, List.map_cons, List.map_nil, hρ _ _ hx, hρ _ _ hy] <;> rfl, hrun⟩
  refine ⟨_, _, (Builtin.zeroCells zv.cells m ++ Builtin.zeroCells zv.cells (grownCap w (n + m) cap e - (n + m))).toList, rfl, hcap, rfl, ⟨Nat.le_succ _, rfl, rfl, rfl, by simp, fun k hk _ => (by apply heap_alloc_old; exact hk)⟩, ?_, ?_⟩
  · unfold Blk
    refine (heap_alloc_new w.drew _).trans ?_
    congr 2
    apply Array.ext'
    simp
  · simp only [Array.length_toList, Array.size_append, size_zeroCells, hzs, ← Nat.add_mul]
    congr 1
    omega
/-- append to an empty slice without room: nothing that was there is written. -/
theorem OpE.append0 {T : Tab} (hT : T.Ok P) {t e : TypeId} {sz : Nat} {ag : Bool} {s bb : Nat} {z : List Value} {a u : Bool} {ie : TI} {x y : Operand} {vx : Value} {g m : Nat} {news : List Value}
    (ht : T.get t = some ⟨.slc sz ag e, s, bb, z, a, u⟩) (he : T.get e = some ie) (hz : ie.zero.length = sz)
    (hx : evO env x = some (.slice (some ⟨g, 0, none⟩) 0 0)) (hy : evO env y = some vx) (hn : IsSl w sz vx m news) (hbytes : m * ie.bytes ≤ 140737488355328) (h63 : m ≤ 9223372036854775807) :
    OpE P env w ⟨dst, .call ⟨.builtin .append, #[x, y], #[t, t]⟩, ty, pos, after, guard⟩
      (fun v' w' => ((m = 0 ∧ v' = .slice (some ⟨g, 0, none⟩) 0 0) ∨ w'.ownsRow w.heap.size e sz v' m news) ∧ Ext w w') fun _ _ => False := by
  obtain ⟨hu, hc⟩ := TD.of_slc (TI.tdof (hT.get _ _ ht)).symm
  obtain ⟨j, dd, zv, hj, hd, hzv, h1, h2, h3, h4, h5, _⟩ := TI.inv (hT.get _ _ he)
  obtain ⟨i, d', hi, hs', _, _⟩ := cellsAgg_inv hc
  rw [hi] at hj; cases hj
  have hzs : zv.cells.size = sz := by rw [← hz, h3]; simp
  have call : ∀ {v' : Value} {w' : World}, (Builtin.append_ #[t, t] ty #[.slice (some ⟨g, 0, none⟩) 0 0, vx]).run P w = .ok v' w' → ∀ ρ : Operand → Value, (∀ x v, evO env x = some v → ρ x = v) →
      ∃ s : Sem Value, execOp ρ ⟨dst, .call ⟨.builtin .append, #[x, y], #[t, t]⟩, ty, pos, after, guard⟩ = (do pure (.value (← s)) : Sem Next) ∧ s.run P w = .ok v' w' := fun hr ρ hρ =>
    ⟨_, by simp only [execOp, resolve, List.map_toArray, List.map_cons, List.map_nil, hρ _ _ hx, hρ _ _ hy]; rfl, hr⟩
  rcases hn.inv with ⟨d0, rfl, rfl, rfl⟩ | ⟨b, o, c, rfl, hr, hl, hcap⟩
  · have hf : ∀ w, (Builtin.firstCells j.size 0 (.slice d0 0 0)).run P w = .ok #[] w := fun w => by cases d0 <;> simp [Builtin.firstCells, loadCells, loadCellsFrom, Pure.pure]
    have hr : (Builtin.append_ #[t, t] ty #[.slice (some ⟨g, 0, none⟩) 0 0, .slice d0 0 0]).run P w = .ok (.slice (some ⟨g, 0, none⟩) 0 0) w := by
      simp [Builtin.append_, run_underlying hu, sizeOf, typeInfo, hi, Builtin.lenOf, hf, storeCells]
    exact .of_run ⟨.inl ⟨rfl, rfl⟩, ExtB.refl _ _⟩ (call hr)
  · by_cases hm : m = 0
    · subst hm
      have hrun2 : (Builtin.append_ #[t, t] ty #[.slice (some ⟨g, 0, none⟩) 0 0, .slice (some ⟨b, o, none⟩) 0 c]).run P w = .ok (.slice (some ⟨g, 0, none⟩) 0 0) w := by
        simp [Builtin.append_, run_underlying hu, sizeOf, typeInfo, hi, Builtin.lenOf, Builtin.firstCells, loadCells, loadCellsFrom, storeCells]
      exact .of_run ⟨.inl ⟨rfl, rfl⟩, ExtB.refl _ _⟩ (call hrun2)
    · have hrun := run_append_grow (P := P) (w := w) t ty e j zv hu hi hzv ⟨g, 0, none⟩ 0 0 [] (by simp) (fun j v h => by simp at h) ⟨b, o, none⟩ m c news (by rw [hl, hs']) (fun q v hv => by rw [add_none]; exact hr q v hv) (by omega) (by omega)
        (growslice_fits (by omega) (by rw [Nat.zero_add, ← h2]; exact hbytes))
      rw [Nat.zero_add] at hrun
      have hcap2 := grownCap_ge w m 0 e
      have hcm : grownCap w m 0 e ≤ maxLen := grownCap_le_maxLen w m 0 e (by simp only [maxLen]; omega)
      refine .of_run ⟨.inr ⟨hl, .inr ⟨w.heap.size, grownCap w m 0 e, _, rfl, Nat.le_refl _, heap_alloc_new w.drew _, hcap2, hcm, ?_, ?_⟩⟩, ⟨Nat.le_succ _, rfl, rfl, rfl, by simp, fun k hk _ => (by apply heap_alloc_old; exact hk)⟩⟩ (call hrun)
      · simp only [Array.size_append, List.size_toArray, List.length_nil, size_zeroCells, hzs, hl, Nat.zero_add, ← Nat.add_mul]
        congr 1; omega
      · simp only [Array.toList_append, List.append_assoc, List.nil_append]
        rw [List.take_append_of_le_length (by rw [hl]; exact Nat.le_refl _), ← hl, List.take_length]
theorem OpV.slice1' {T : Tab} (hT : T.Ok P) {t e : TypeId} {sz : Nat} {ag : Bool} {s bb : Nat} {z : List Value} {a u : Bool} {x : Operand} {low : Option Operand} {b o len cap : Nat} (lo : Nat)
    (ht : T.get t = some ⟨.slc sz ag e, s, bb, z, a, u⟩) (hx : evO env x = some (.slice (some ⟨b, o, none⟩) len cap)) (hl : Bnd env low 0 lo) (h1 : lo ≤ len) (h2 : len ≤ cap) (h3 : lo < cap) :
    OpV P env w ⟨dst, .slice t x low none none, ty, pos, after, guard⟩ (.slice (some ⟨b, o + lo * sz, none⟩) (len - lo) (cap - lo)) :=
  OpV.sliceSq hT ht hx hl .none h1 h2 (offOf_lt h3) rfl rfl
theorem OpE.build0 {T : Tab} (hT : T.Ok P) (t e : TypeId) {sz : Nat} {ag : Bool} {s b : Nat} {z : List Value} {a u : Bool} {ie : TI} (ht : T.get t = some ⟨.slc sz ag e, s, b, z, a, u⟩) (he : T.get e = some ie) (hz : ie.zero.length = sz) :
    OpE P env w ⟨dst, .buildSlice t 0 #[], ty, pos, after, guard⟩ (fun v w' => (∃ B, v = .slice (some ⟨B, 0, none⟩) 0 0) ∧ Ext w w') fun _ _ => False := by
  refine OpE.mono (OpE.buildSl (w := w) (env := env) hT [] ht he hz (by simp [Nat.ble]) rfl rfl (by simp)) ?_ fun _ _ h => h
  rintro v w' ⟨B, h, a⟩; exact ⟨⟨B, h⟩, a.ext⟩
end
end Go.Rn
end
section
/- Devices: the reference's Right, used, Check. -/
namespace Go.Sg
open Go.Rn Go.Proofs Go.Dev Go.Rec Go.Best Go.NT
attribute [local irreducible] Go.Rn.RetsX Go.Rn.RunLN Go.Rn.AsyN Go.Rn.RunL Go.Rn.RunE Go.Rn.Asy Go.Rn.OpV Go.Rn.OpE Go.Rn.ExecE
theorem r48Time_ok (n : Int) (w : World) : Rets Tryd.prog 75 [.int .i64 n] w fun v w' => v = .bool (decide (0 ≤ n ∧ n < 1099511627776)) ∧ w = w' := by
  refine RetsX.of (nt := 9) Tryd.func75 (by kernel_rfl) rfl rfl (by simp) (by simp only [argEnv]; rfl) ?_
  repeat' (first | with_reducible refine RunLN.boolT rfl ?_ | with_reducible refine RunLN.boolF rfl ?_ | refine RunLN.int (by (first | exact wr_i64 (by omega) (by omega) | exact wm_i64 (by omega) | exact wq_i64 (by omega) (by omega) (by omega) | rfl)) ?_ | (refine RunLN.boolC (fun h_ => ?_) (fun h_ => ?_) <;> (try simp only [decide_eq_true_eq, decide_eq_false_iff_not, beq_iff_eq, bne_iff_ne, ne_eq, Bool.not_eq_true, Bool.not_eq_false, beq_eq_false_iff_ne, bne_eq_false_iff_eq, Bool.not_eq_eq_eq_not, Bool.not_true, Bool.not_false, Bool.not_not, Int.not_lt, Int.not_le, gt_iff_lt, ge_iff_le, Decidable.not_not] at h_)) | refine RunL.ev Tryd.tOk rfl rfl rfl ?_ | refine RunL.unwantedD rfl rfl ?_ | refine RunE.seq ?_ | refine RunE.region ?_ | refine RunL.nil ?_)
  all_goals
    refine RunE.retFn Tryd.func75 (.tmp rfl .nil) ⟨?_, rfl⟩
    simp only [oneOr]
    congr 1
    first | exact (decide_eq_true (by omega)).symm | exact (decide_eq_false (by omega)).symm
theorem r48Person_ok (n : Int) (w : World) : Rets Tryd.prog 42 [.int .i64 n] w fun v w' => v = .bool (decide (0 ≤ n ∧ n < 64)) ∧ w = w' := by
  refine RetsX.of (nt := 9) Tryd.func42 (by kernel_rfl) rfl rfl (by simp) (by simp only [argEnv]; rfl) ?_
  repeat' (first | with_reducible refine RunLN.boolT rfl ?_ | with_reducible refine RunLN.boolF rfl ?_ | refine RunLN.int (by (first | exact wr_i64 (by omega) (by omega) | exact wm_i64 (by omega) | exact wq_i64 (by omega) (by omega) (by omega) | rfl)) ?_ | (refine RunLN.boolC (fun h_ => ?_) (fun h_ => ?_) <;> (try simp only [decide_eq_true_eq, decide_eq_false_iff_not, beq_iff_eq, bne_iff_ne, ne_eq, Bool.not_eq_true, Bool.not_eq_false, beq_eq_false_iff_ne, bne_eq_false_iff_eq, Bool.not_eq_eq_eq_not, Bool.not_true, Bool.not_false, Bool.not_not, Int.not_lt, Int.not_le, gt_iff_lt, ge_iff_le, Decidable.not_not] at h_)) | refine RunL.ev Tryd.tOk rfl rfl rfl ?_ | refine RunL.unwantedD rfl rfl ?_ | refine RunE.seq ?_ | refine RunE.region ?_ | refine RunL.nil ?_)
  all_goals
    refine RunE.retFn Tryd.func42 (.tmp rfl .nil) ⟨?_, rfl⟩
    simp only [oneOr]
    congr 1
    first | exact (decide_eq_true (by omega)).symm | exact (decide_eq_false (by omega)).symm
set_option maxHeartbeats 2000000 in
set_option maxRecDepth 4000 in
theorem rright48_ok (x : Dev) (w : World) : Rets Tryd.prog 69 [.agg x.cells.toArray] w fun v w' => v = .bool (rightD x) ∧ Ext w w' := by
  obtain ⟨no, at_, known, person, key, gone⟩ := x
  refine RetsX.of (nt := 42) Tryd.func69 (by kernel_rfl) rfl rfl (by simp) (by simp only [argEnv]; rfl) ?_
  have X := ExtB.refl (fun _ => False) w
  repeat' (first | refine RunE.seq ?_ | refine RunE.region ?_)
  refine RunL.box rfl rfl rfl fun B1 w1_ a_ => ?_
  have Z1 : Blk w1_ B1 (Dev.cells ⟨no, at_, known, person, key, gone⟩) 57 := a_.at_
  have gB1 := a_.ge X
  replace X := X.trans a_.ext
  clear a_
  by_cases hb : 0 ≤ no ∧ no ≤ 1048576 ∧ 0 ≤ at_ ∧ at_ < 1099511627776 ∧ 0 ≤ known ∧ known < 1099511627776 ∧ 0 ≤ person ∧ person < 64
  · have hR : rightD ⟨no, at_, known, person, key, gone⟩ = if gone then decide (key = 0) else validS key && decide (key ≠ 1) := by
      unfold rightD; simp only; rw [decide_eq_true hb, Bool.true_and]
    obtain ⟨b1, b2, b3, b4, b5, b6, b7, b8⟩ := hb
    have t1 := fun w => r48Time_ok at_ w
    have t2 := fun w => r48Time_ok known w
    have t3 := fun w => r48Person_ok person w
    rw [decide_eq_true ⟨b3, b4⟩] at t1
    rw [decide_eq_true ⟨b5, b6⟩] at t2
    rw [decide_eq_true ⟨b7, b8⟩] at t3
    rw [hR]
    cases gone with
    | true =>
      simp only [if_true]
      repeat' (first | with_reducible refine RunLN.boolT rfl ?_ | with_reducible refine RunLN.boolF rfl ?_ | refine RunLN.int (by (first | exact wr_i64 (by omega) (by omega) | exact wm_i64 (by omega) | exact wq_i64 (by omega) (by omega) (by omega) | rfl)) ?_ | (refine RunLN.boolC (fun h_ => ?_) (fun h_ => ?_) <;> (try simp only [decide_eq_true_eq, decide_eq_false_iff_not, beq_iff_eq, bne_iff_ne, ne_eq, Bool.not_eq_true, Bool.not_eq_false, beq_eq_false_iff_ne, bne_eq_false_iff_eq, Bool.not_eq_eq_eq_not, Bool.not_true, Bool.not_false, Bool.not_not, Int.not_lt, Int.not_le, gt_iff_lt, ge_iff_le, Decidable.not_not] at h_)) | refine RunLN.any ?_ | refine RunL.ev Tryd.tOk rfl rfl rfl ?_ | refine RunL.unwantedD rfl rfl ?_ | refine RunL.evV rfl rfl rfl (OpV.load1 Tryd.tOk rfl rfl rfl (Blk.cell Z1 rfl)) ?_ | refine RunL.callN rfl rfl rfl (t1 _) ?_ | refine RunL.callN rfl rfl rfl (t2 _) ?_ | refine RunL.callN rfl rfl rfl (t3 _) ?_ | refine RunE.condT rfl rfl ?_ | refine RunE.condF rfl rfl ?_ | refine RunE.seq ?_ | refine RunE.region ?_ | refine RunL.nil ?_ | refine RunE.skip ?_)
      all_goals
        refine RunE.retFn Tryd.func69 (.tmp rfl .nil) ⟨?_, X⟩
        simp only [oneOr]
        congr 1
        first | exact (decide_eq_true (by omega)).symm | exact (decide_eq_false (by omega)).symm
    | false =>
      simp only [Bool.false_eq_true, if_false]
      have hval := fun w => r10_valid_ok key w
      cases hv : validS key with
      | true =>
        rw [hv] at hval
        repeat' (first | with_reducible refine RunLN.boolT rfl ?_ | with_reducible refine RunLN.boolF rfl ?_ | refine RunLN.int (by (first | exact wr_i64 (by omega) (by omega) | exact wm_i64 (by omega) | exact wq_i64 (by omega) (by omega) (by omega) | rfl)) ?_ | (refine RunLN.boolC (fun h_ => ?_) (fun h_ => ?_) <;> (try simp only [decide_eq_true_eq, decide_eq_false_iff_not, beq_iff_eq, bne_iff_ne, ne_eq, Bool.not_eq_true, Bool.not_eq_false, beq_eq_false_iff_ne, bne_eq_false_iff_eq, Bool.not_eq_eq_eq_not, Bool.not_true, Bool.not_false, Bool.not_not, Int.not_lt, Int.not_le, gt_iff_lt, ge_iff_le, Decidable.not_not] at h_)) | refine RunLN.any ?_ | refine RunL.ev Tryd.tOk rfl rfl rfl ?_ | refine RunL.unwantedD rfl rfl ?_ | refine RunL.evV rfl rfl rfl (OpV.load1 Tryd.tOk rfl rfl rfl (Blk.cell Z1 rfl)) ?_ | refine RunL.callN rfl rfl rfl (t1 _) ?_ | refine RunL.callN rfl rfl rfl (t2 _) ?_ | refine RunL.callN rfl rfl rfl (t3 _) ?_ | refine RunL.callN rfl rfl rfl (hval _) ?_ | refine RunE.condT rfl rfl ?_ | refine RunE.condF rfl rfl ?_ | refine RunE.seq ?_ | refine RunE.region ?_ | refine RunL.nil ?_ | refine RunE.skip ?_)
        all_goals
          refine RunE.retFn Tryd.func69 (.tmp rfl .nil) ⟨?_, X⟩
          simp only [oneOr, Bool.true_and]
          congr 1
          first | exact (decide_eq_true (by omega)).symm | exact (decide_eq_false (by omega)).symm
      | false =>
        rw [hv] at hval
        repeat' (first | with_reducible refine RunLN.boolT rfl ?_ | with_reducible refine RunLN.boolF rfl ?_ | refine RunLN.int (by (first | exact wr_i64 (by omega) (by omega) | exact wm_i64 (by omega) | exact wq_i64 (by omega) (by omega) (by omega) | rfl)) ?_ | (refine RunLN.boolC (fun h_ => ?_) (fun h_ => ?_) <;> (try simp only [decide_eq_true_eq, decide_eq_false_iff_not, beq_iff_eq, bne_iff_ne, ne_eq, Bool.not_eq_true, Bool.not_eq_false, beq_eq_false_iff_ne, bne_eq_false_iff_eq, Bool.not_eq_eq_eq_not, Bool.not_true, Bool.not_false, Bool.not_not, Int.not_lt, Int.not_le, gt_iff_lt, ge_iff_le, Decidable.not_not] at h_)) | refine RunLN.any ?_ | refine RunL.ev Tryd.tOk rfl rfl rfl ?_ | refine RunL.unwantedD rfl rfl ?_ | refine RunL.evV rfl rfl rfl (OpV.load1 Tryd.tOk rfl rfl rfl (Blk.cell Z1 rfl)) ?_ | refine RunL.callN rfl rfl rfl (t1 _) ?_ | refine RunL.callN rfl rfl rfl (t2 _) ?_ | refine RunL.callN rfl rfl rfl (t3 _) ?_ | refine RunL.callN rfl rfl rfl (hval _) ?_ | refine RunE.condT rfl rfl ?_ | refine RunE.condF rfl rfl ?_ | refine RunE.seq ?_ | refine RunE.region ?_ | refine RunL.nil ?_ | refine RunE.skip ?_)
        all_goals exact RunE.retFn Tryd.func69 (.tmp rfl .nil) ⟨rfl, X⟩
  · have hR : rightD ⟨no, at_, known, person, key, gone⟩ = false := by
      unfold rightD; simp only; rw [decide_eq_false hb, Bool.false_and]
    rw [hR]
    repeat' (first | with_reducible refine RunLN.boolT rfl ?_ | with_reducible refine RunLN.boolF rfl ?_ | refine RunLN.int (by (first | exact wr_i64 (by omega) (by omega) | exact wm_i64 (by omega) | exact wq_i64 (by omega) (by omega) (by omega) | rfl)) ?_ | (refine RunLN.boolC (fun h_ => ?_) (fun h_ => ?_) <;> (try simp only [decide_eq_true_eq, decide_eq_false_iff_not, beq_iff_eq, bne_iff_ne, ne_eq, Bool.not_eq_true, Bool.not_eq_false, beq_eq_false_iff_ne, bne_eq_false_iff_eq, Bool.not_eq_eq_eq_not, Bool.not_true, Bool.not_false, Bool.not_not, Int.not_lt, Int.not_le, gt_iff_lt, ge_iff_le, Decidable.not_not] at h_)) | refine RunLN.any ?_ | refine RunL.ev Tryd.tOk rfl rfl rfl ?_ | refine RunL.unwantedD rfl rfl ?_ | refine RunL.evV rfl rfl rfl (OpV.load1 Tryd.tOk rfl rfl rfl (Blk.cell Z1 rfl)) ?_ | refine RunL.callN rfl rfl rfl (r48Time_ok _ _) ?_ | refine RunL.callN rfl rfl rfl (r48Person_ok _ _) ?_ | refine RunE.condT rfl rfl ?_ | refine RunE.condF rfl rfl ?_ | refine RunE.seq ?_ | refine RunE.region ?_ | refine RunL.nil ?_ | refine RunE.skip ?_)
    all_goals first
      | exact RunE.retFn Tryd.func69 (.tmp rfl .nil) ⟨rfl, X⟩
      | (exfalso; omega)
theorem rused48_ok (l : List Dev) (v : Value) (key : Int) (w : World) (hv : LD w v l) (hl : l.length < 9223372036854775808) : Rets Tryd.prog 70 [v, .int .i64 key] w fun r w' => r = .bool (usedD l key) ∧ w = w' := by
  refine RetsX.of (nt := 23) Tryd.func70 (by kernel_rfl) rfl rfl (by simp) (by simp only [argEnv]; rfl) ?_
  have X := ExtB.refl (fun _ => False) w
  repeat' (first | with_reducible refine RunLN.boolF rfl ?_ | refine RunLN.int (by (first | exact wr_i64 (by omega) (by omega) | exact wm_i64 (by omega) | exact wq_i64 (by omega) (by omega) (by omega) | rfl)) ?_ | refine RunL.ev Tryd.tOk rfl rfl rfl ?_ | refine RunE.seq ?_ | refine RunE.region ?_ | refine RunL.nil ?_ | refine RunE.block ?_)
  refine RunE.loop (ι := Nat) (fun i => [(0, v), (1, .int .i64 key), (5, .int .i64 (i : Int))])
    (fun i w' => i ≤ l.length ∧ usedD (l.take i) key = false ∧ w = w') (fun i => l.length - i) 0 (by repeat (first | exact Sub.nil _ | refine Sub.cons rfl ?_)) ⟨Nat.zero_le _, rfl, rfl⟩ ?_
  rintro i _ ⟨hi, hu, rfl⟩ again
  by_cases hlt : i < l.length
  · obtain ⟨b, o, cap, rfl, hr, hc⟩ := isL_held hv hlt
    obtain ⟨x, hx⟩ : ∃ x, l[i]? = some x := ⟨_, List.getElem?_eq_getElem hlt⟩
    have hrx := flat_row encD hr hx
    have ht : usedD (l.take (i + 1)) key = decide (key ≠ 0 ∧ x.key = key) := by
      rw [List.take_add_one, hx]
      show usedD (l.take i ++ [x]) key = _
      rw [usedD_snoc, hu, Bool.false_or]
    by_cases hk : key = 0
    · rw [decide_eq_false (fun h => h.1 hk)] at ht
      repeat' (first | with_reducible refine RunLN.boolF rfl ?_ | (with_reducible refine RunLN.decT ?_ ?_; focus omega) | (with_reducible refine RunLN.neF ?_ ?_; focus omega) | refine RunLN.int (by (first | exact wr_i64 (by omega) (by omega) | exact wm_i64 (by omega) | exact wq_i64 (by omega) (by omega) (by omega) | rfl)) ?_ | refine RunLN.any ?_ | refine RunL.ev Tryd.tOk rfl rfl rfl ?_ | refine RunL.unwantedD rfl rfl ?_ | refine RunE.condT rfl rfl ?_ | refine RunE.condF rfl rfl ?_ | refine RunE.seq ?_ | refine RunE.region ?_ | refine RunL.nil ?_ | refine RunE.block ?_ | refine RunE.inBlock ?_ | refine RunE.skip ?_)
      exact RunE.weaken (by repeat (first | exact Sub.nil _ | refine Sub.cons rfl ?_)) (again (i + 1) _ (by omega) ⟨by omega, ht, rfl⟩)
    · by_cases hxk : x.key = key
      · have hany : usedD l key = true := List.any_eq_true.2 ⟨x, List.mem_of_getElem? hx, decide_eq_true ⟨hk, hxk⟩⟩
        repeat' (first | with_reducible refine RunLN.boolT rfl ?_ | (with_reducible refine RunLN.decT ?_ ?_; focus omega) | (with_reducible refine RunLN.eqT ?_ ?_; focus omega) | (with_reducible refine RunLN.neT ?_ ?_; focus omega) | refine RunLN.int (by (first | exact wr_i64 (by omega) (by omega) | exact wm_i64 (by omega) | exact wq_i64 (by omega) (by omega) (by omega) | rfl)) ?_ | refine RunLN.any ?_ | refine RunL.ev Tryd.tOk rfl rfl rfl ?_ | refine RunL.evV rfl rfl rfl (OpV.load1 Tryd.tOk rfl rfl rfl ((hrx.up X) _ _ rfl)) ?_ | refine RunL.evV rfl rfl rfl (OpV.indexS Tryd.tOk _ rfl rfl rfl rfl (by omega)) ?_ | refine RunE.condT rfl rfl ?_ | refine RunE.seq ?_ | refine RunE.region ?_ | refine RunL.nil ?_ | refine RunE.block ?_ | refine RunE.skip ?_)
        exact RunE.retFn Tryd.func70 (.tmp rfl .nil) ⟨by rw [hany]; rfl, rfl⟩
      · rw [decide_eq_false (fun h => hxk h.2)] at ht
        repeat' (first | with_reducible refine RunLN.boolT rfl ?_ | with_reducible refine RunLN.boolF rfl ?_ | (with_reducible refine RunLN.decT ?_ ?_; focus omega) | (with_reducible refine RunLN.eqF ?_ ?_; focus omega) | (with_reducible refine RunLN.neT ?_ ?_; focus omega) | refine RunLN.int (by (first | exact wr_i64 (by omega) (by omega) | exact wm_i64 (by omega) | exact wq_i64 (by omega) (by omega) (by omega) | rfl)) ?_ | refine RunLN.any ?_ | refine RunL.ev Tryd.tOk rfl rfl rfl ?_ | refine RunL.evV rfl rfl rfl (OpV.load1 Tryd.tOk rfl rfl rfl ((hrx.up X) _ _ rfl)) ?_ | refine RunL.evV rfl rfl rfl (OpV.indexS Tryd.tOk _ rfl rfl rfl rfl (by omega)) ?_ | refine RunE.condT rfl rfl ?_ | refine RunE.condF rfl rfl ?_ | refine RunE.seq ?_ | refine RunE.region ?_ | refine RunL.nil ?_ | refine RunE.block ?_ | refine RunE.inBlock ?_ | refine RunE.skip ?_)
        exact RunE.weaken (by repeat (first | exact Sub.nil _ | refine Sub.cons rfl ?_)) (again (i + 1) _ (by omega) ⟨by omega, ht, rfl⟩)
  · obtain rfl : i = l.length := by omega
    rw [List.take_length] at hu
    repeat' (first | with_reducible refine RunLN.boolF rfl ?_ | (with_reducible refine RunLN.decF ?_ ?_; focus omega) | refine RunLN.int (by (first | exact wr_i64 (by omega) (by omega) | exact wm_i64 (by omega) | exact wq_i64 (by omega) (by omega) (by omega) | rfl)) ?_ | refine RunLN.any ?_ | refine RunL.ev Tryd.tOk rfl rfl rfl ?_ | refine RunL.evV rfl rfl rfl (OpV.lenSl Tryd.tOk rfl rfl hv) ?_ | refine RunE.condF rfl rfl ?_ | refine RunE.seq ?_ | refine RunE.region ?_ | refine RunL.nil ?_ | refine RunE.exit rfl ?_)
    exact RunE.retFn Tryd.func70 (.tmp rfl .nil) ⟨by rw [hu]; rfl, rfl⟩
end Go.Sg
end
section
/- Devices: the reference's Check. -/
namespace Go.Sg
open Go.Rn Go.Proofs Go.Dev Go.Rec Go.Best Go.NT
attribute [local irreducible] Go.Rn.RetsX Go.Rn.RunLN Go.Rn.AsyN Go.Rn.RunL Go.Rn.RunE Go.Rn.Asy Go.Rn.OpV Go.Rn.OpE Go.Rn.ExecE
set_option maxHeartbeats 2000000 in
theorem rcheck48_ok (l : List Dev) (v : Value) (w : World) (hv : LD w v l) (hl : l.length < 9223372036854775808) : Rets Tryd.prog 35 [v] w fun r w' => r = .int .i64 (chkD l) ∧ Ext w w' := by
  refine RetsX.of (nt := 48) Tryd.func35 (by kernel_rfl) rfl rfl (by simp) (by simp only [argEnv]; rfl) ?_
  have X := ExtB.refl (fun _ => False) w
  repeat' (first | refine RunLN.int (by (first | exact wr_i64 (by omega) (by omega) | exact wm_i64 (by omega) | exact wq_i64 (by omega) (by omega) (by omega) | rfl)) ?_ | (refine RunLN.boolC (fun h_ => ?_) (fun h_ => ?_) <;> (try simp only [decide_eq_true_eq, decide_eq_false_iff_not, beq_iff_eq, bne_iff_ne, ne_eq, Bool.not_eq_true, Bool.not_eq_false, beq_eq_false_iff_ne, bne_eq_false_iff_eq, Bool.not_eq_eq_eq_not, Bool.not_true, Bool.not_false, Bool.not_not, Int.not_lt, Int.not_le, gt_iff_lt, ge_iff_le, Decidable.not_not] at h_)) | refine RunLN.any ?_ | refine RunL.ev Tryd.tOk rfl rfl rfl ?_ | refine RunL.evV rfl rfl rfl (OpV.lenSl Tryd.tOk rfl rfl hv) ?_ | refine RunE.condT rfl rfl ?_ | refine RunE.condF rfl rfl ?_ | refine RunE.seq ?_ | refine RunE.region ?_ | refine RunL.nil ?_ | refine RunE.block ?_ | refine RunE.skip ?_)
  · exact RunE.retFn Tryd.func35 (.tmp rfl .nil) ⟨by simp only [oneOr]; unfold chkD; rw [if_pos (by omega)], X⟩
  skip
  refine RunE.loop (ι := Nat) (fun x => [(0, v), (3, .int .i64 (x : Int))])
    (fun i w' => i ≤ l.length ∧ (∃ last, -1 ≤ last ∧ (i = 0 → last = -1) ∧ (∀ y, l[i - 1]? = some y → 0 < i → y.no = last) ∧ goodL (l.take i) last (l.drop i) = goodL [] (-1) l) ∧ Ext w w') (fun x => l.length - x) 0 (by repeat (first | exact Sub.nil _ | refine Sub.cons rfl ?_))
    ⟨Nat.zero_le _, ⟨-1, by omega, fun _ => rfl, fun y _ h => absurd h (by omega), rfl⟩, X⟩ ?_
  clear X
  rintro i w3 ⟨hi, ⟨last, hm, h0, hp, hg⟩, X⟩ again
  by_cases hlt : i < l.length
  · obtain ⟨b, o, cap, rfl, hr, hc⟩ := isL_held hv hlt
    obtain ⟨x, hx⟩ : ∃ x, l[i]? = some x := ⟨_, List.getElem?_eq_getElem hlt⟩
    have hrx := flat_row encD hr hx
    have hd : l.drop i = x :: l.drop (i + 1) := by
      obtain ⟨hi, e⟩ := List.getElem?_eq_some_iff.1 hx
      rw [List.drop_eq_getElem_cons hi, e]
    have ht : l.take (i + 1) = l.take i ++ [x] := by rw [List.take_add_one, hx]; rfl
    have hpre : ∀ w', Ext w w' → LD w' (.slice (some ⟨b, o, none⟩) i cap) (l.take i) := fun w' e => by
      have h1 : Row w' b o (flat Dev.cells (l.take i)) := by have := (hr.extE e).take (i * 6); rwa [flat_take encD] at this
      have h2 : (l.take i).length = i := by rw [List.length_take, Nat.min_eq_left hi]
      have h3 := IsSl.row (n := i) (cap := cap) (sz := 6) h1 (by rw [flat_length encD, h2]) (by omega)
      exact (congrArg (fun n => IsSl _ _ _ n _) h2).mpr h3
    rw [hd] at hg
    simp only [goodL] at hg
    rw [← ht] at hg
    repeat' (first | (with_reducible refine RunLN.decT ?_ ?_; focus omega) | refine RunLN.int (by (first | exact wr_i64 (by omega) (by omega) | exact wm_i64 (by omega) | exact wq_i64 (by omega) (by omega) (by omega) | rfl)) ?_ | refine RunLN.any ?_ | refine RunL.ev Tryd.tOk rfl rfl rfl ?_ | refine RunE.condT rfl rfl ?_ | refine RunE.seq ?_ | refine RunE.region ?_ | refine RunL.nil ?_ | refine RunE.block ?_ | refine RunE.skip ?_)
    refine RunE.draw (fun _ => False) mix ?_
    intro wd_ Xd_
    have hcx := fun w => rright48_ok x w
    cases hrt : rightD x with
    | false =>
      rw [hrt] at hcx hg
      simp only [Bool.false_and] at hg
      repeat' (first | with_reducible refine AsyN.boolT rfl ?_ | with_reducible refine AsyN.boolF rfl ?_ | refine AsyN.int (by (first | exact wr_i64 (by omega) (by omega) | exact wm_i64 (by omega) | exact wq_i64 (by omega) (by omega) (by omega) | rfl)) ?_ | refine AsyN.any ?_ | refine Asy.ev Tryd.tOk rfl rfl rfl ?_ | refine Asy.unwantedD rfl rfl rfl ?_ | refine Asy.evV rfl rfl rfl rfl (fun _ X_ => OpV.loadN Tryd.tOk rfl rfl rfl rfl (hrx.up (X.trans (Xd_.trans X_)))) ?_ | refine Asy.callN rfl rfl rfl (fun _ _ => (hcx _)) ?_ | refine Asy.evV rfl rfl rfl rfl (fun _ X_ => OpV.indexS Tryd.tOk _ rfl rfl rfl rfl (by omega)) ?_)
      refine Asy.end_ (by kernel_rfl) ?_
      intro we_ Xe_
      replace X := X.trans (Xd_.trans Xe_)
      repeat' (first | refine RunLN.int (by (first | exact wr_i64 (by omega) (by omega) | exact wm_i64 (by omega) | exact wq_i64 (by omega) (by omega) (by omega) | rfl)) ?_ | refine RunL.ev Tryd.tOk rfl rfl rfl ?_ | refine RunE.condT rfl rfl ?_ | refine RunE.seq ?_ | refine RunE.region ?_ | refine RunL.nil ?_)
      exact RunE.retFn Tryd.func35 (.tmp rfl .nil) ⟨by simp only [oneOr]; unfold chkD; rw [if_neg (by omega), if_neg (by rw [← hg]; simp)], X⟩
    | true =>
      rw [hrt] at hcx
      rw [hrt, Bool.true_and] at hg
      have hx0 := (right_no hrt).1
      have next : goodL (l.take (i + 1)) x.no (l.drop (i + 1)) = goodL [] (-1) l → ∀ w', Ext w w' → _ := fun h2 w' X' => again (i + 1) w' (by omega) ⟨by omega, ⟨x.no, by omega, fun h => by omega, fun y hy _ => by rw [Nat.add_sub_cancel, hx] at hy; cases hy; rfl, h2⟩, X'⟩
      clear again
      by_cases hz : i = 0
      · have hlast := h0 hz
        have hlx : last < x.no := by omega
        rw [decide_eq_true hlx, Bool.true_and] at hg
        repeat' (first | with_reducible refine AsyN.boolT rfl ?_ | with_reducible refine AsyN.boolF rfl ?_ | (with_reducible refine AsyN.decF ?_ ?_; focus omega) | refine AsyN.int (by (first | exact wr_i64 (by omega) (by omega) | exact wm_i64 (by omega) | exact wq_i64 (by omega) (by omega) (by omega) | rfl)) ?_ | refine AsyN.any ?_ | refine Asy.ev Tryd.tOk rfl rfl rfl ?_ | refine Asy.unwantedD rfl rfl rfl ?_ | refine Asy.evV rfl rfl rfl rfl (fun _ X_ => OpV.loadN Tryd.tOk rfl rfl rfl rfl (hrx.up (X.trans (Xd_.trans X_)))) ?_ | refine Asy.evV rfl rfl rfl rfl (fun _ X_ => OpV.load1 Tryd.tOk rfl rfl rfl ((hrx.up (X.trans (Xd_.trans X_))) _ _ rfl)) ?_ | refine Asy.callN rfl rfl rfl (fun _ _ => (hcx _)) ?_ | refine Asy.evV rfl rfl rfl rfl (fun _ X_ => (OpV.slice0 Tryd.tOk (hi := i) rfl rfl .none (.some rfl rfl) (by omega))) ?_ | refine Asy.evV rfl rfl rfl rfl (fun _ X_ => OpV.indexS Tryd.tOk _ rfl rfl rfl rfl (by omega)) ?_)
        refine Asy.callN rfl rfl rfl (fun w' e => (rused48_ok (l.take i) _ x.key w' (hpre _ (X.trans (Xd_.trans e))) (by simp only [List.length_take]; omega)).mono (fun _ _ h => ⟨h.1, by rw [h.2]; exact ExtB.refl _ _⟩)) ?_
        cases hus : usedD (l.take i) x.key with
        | true =>
          rw [hus, Bool.not_true, Bool.false_and] at hg
          repeat' (first | with_reducible refine AsyN.boolT rfl ?_ | refine Asy.ev Tryd.tOk rfl rfl rfl ?_)
          refine Asy.end_ (by kernel_rfl) ?_
          intro we_ Xe_
          replace X := X.trans (Xd_.trans Xe_)
          repeat' (first | refine RunLN.int (by (first | exact wr_i64 (by omega) (by omega) | exact wm_i64 (by omega) | exact wq_i64 (by omega) (by omega) (by omega) | rfl)) ?_ | refine RunL.ev Tryd.tOk rfl rfl rfl ?_ | refine RunE.condT rfl rfl ?_ | refine RunE.seq ?_ | refine RunE.region ?_ | refine RunL.nil ?_)
          exact RunE.retFn Tryd.func35 (.tmp rfl .nil) ⟨by simp only [oneOr]; unfold chkD; rw [if_neg (by omega), if_neg (by rw [← hg]; simp)], X⟩
        | false =>
          rw [hus, Bool.not_false, Bool.true_and] at hg
          repeat' (first | with_reducible refine AsyN.boolF rfl ?_ | refine Asy.ev Tryd.tOk rfl rfl rfl ?_)
          refine Asy.end_ (by kernel_rfl) ?_
          intro we_ Xe_
          replace X := X.trans (Xd_.trans Xe_)
          repeat' (first | refine RunLN.int (by (first | exact wr_i64 (by omega) (by omega) | exact wm_i64 (by omega) | exact wq_i64 (by omega) (by omega) (by omega) | rfl)) ?_ | refine RunL.ev Tryd.tOk rfl rfl rfl ?_ | refine RunE.condF rfl rfl ?_ | refine RunE.region ?_ | refine RunL.nil ?_ | refine RunE.inBlock ?_ | refine RunE.skip ?_)
          exact RunE.weaken (by repeat (first | exact Sub.nil _ | refine Sub.cons rfl ?_)) (next hg _ X)
      · obtain ⟨y, hy⟩ : ∃ y, l[i - 1]? = some y := ⟨_, List.getElem?_eq_getElem (by omega)⟩
        have hry := flat_row encD hr hy
        have hyl := hp y hy (by omega)
        have him : ((i : Int) - 1) = ((i - 1 : Nat) : Int) := by omega
        by_cases hlast : last < x.no
        · rw [decide_eq_true hlast, Bool.true_and] at hg
          repeat' (first | with_reducible refine AsyN.boolT rfl ?_ | with_reducible refine AsyN.boolF rfl ?_ | (with_reducible refine AsyN.decT ?_ ?_; focus omega) | (with_reducible refine AsyN.decF ?_ ?_; focus omega) | refine AsyN.int (by (first | exact wr_i64 (by omega) (by omega) | exact wm_i64 (by omega) | exact wq_i64 (by omega) (by omega) (by omega) | rfl)) ?_ | refine AsyN.any ?_ | refine Asy.ev Tryd.tOk rfl rfl rfl ?_ | refine Asy.evV rfl rfl rfl rfl (fun _ X_ => OpV.loadN Tryd.tOk rfl rfl rfl rfl (hrx.up (X.trans (Xd_.trans X_)))) ?_ | refine Asy.callN rfl rfl rfl (fun _ _ => (hcx _)) ?_ | refine Asy.evV rfl rfl rfl rfl (fun _ X_ => OpV.load1 Tryd.tOk rfl rfl rfl ((hry.up (X.trans (Xd_.trans X_))) _ _ rfl)) ?_ | refine Asy.evV rfl rfl rfl rfl (fun _ X_ => OpV.load1 Tryd.tOk rfl rfl rfl ((hrx.up (X.trans (Xd_.trans X_))) _ _ rfl)) ?_ | refine Asy.evV rfl rfl rfl rfl (fun _ X_ => OpV.indexS Tryd.tOk (i - 1) rfl rfl rfl (by first | rfl | omega) (by omega)) ?_ | refine Asy.evV rfl rfl rfl rfl (fun _ X_ => (OpV.slice0 Tryd.tOk (hi := i) rfl rfl .none (.some rfl rfl) (by omega))) ?_ | refine Asy.evV rfl rfl rfl rfl (fun _ X_ => OpV.indexS Tryd.tOk _ rfl rfl rfl rfl (by omega)) ?_)
          refine Asy.callN rfl rfl rfl (fun w' e => (rused48_ok (l.take i) _ x.key w' (hpre _ (X.trans (Xd_.trans e))) (by simp only [List.length_take]; omega)).mono (fun _ _ h => ⟨h.1, by rw [h.2]; exact ExtB.refl _ _⟩)) ?_
          cases hus : usedD (l.take i) x.key with
          | true =>
            rw [hus, Bool.not_true, Bool.false_and] at hg
            repeat' (first | with_reducible refine AsyN.boolT rfl ?_ | refine Asy.ev Tryd.tOk rfl rfl rfl ?_)
            refine Asy.end_ (by kernel_rfl) ?_
            intro we_ Xe_
            replace X := X.trans (Xd_.trans Xe_)
            repeat' (first | refine RunLN.int (by (first | exact wr_i64 (by omega) (by omega) | exact wm_i64 (by omega) | exact wq_i64 (by omega) (by omega) (by omega) | rfl)) ?_ | refine RunL.ev Tryd.tOk rfl rfl rfl ?_ | refine RunE.condT rfl rfl ?_ | refine RunE.seq ?_ | refine RunE.region ?_ | refine RunL.nil ?_)
            exact RunE.retFn Tryd.func35 (.tmp rfl .nil) ⟨by simp only [oneOr]; unfold chkD; rw [if_neg (by omega), if_neg (by rw [← hg]; simp)], X⟩
          | false =>
            rw [hus, Bool.not_false, Bool.true_and] at hg
            repeat' (first | with_reducible refine AsyN.boolF rfl ?_ | refine Asy.ev Tryd.tOk rfl rfl rfl ?_)
            refine Asy.end_ (by kernel_rfl) ?_
            intro we_ Xe_
            replace X := X.trans (Xd_.trans Xe_)
            repeat' (first | refine RunLN.int (by (first | exact wr_i64 (by omega) (by omega) | exact wm_i64 (by omega) | exact wq_i64 (by omega) (by omega) (by omega) | rfl)) ?_ | refine RunL.ev Tryd.tOk rfl rfl rfl ?_ | refine RunE.condF rfl rfl ?_ | refine RunE.region ?_ | refine RunL.nil ?_ | refine RunE.inBlock ?_ | refine RunE.skip ?_)
            exact RunE.weaken (by repeat (first | exact Sub.nil _ | refine Sub.cons rfl ?_)) (next hg _ X)
        · rw [decide_eq_false hlast, Bool.false_and, Bool.false_and] at hg
          repeat' (first | with_reducible refine AsyN.boolT rfl ?_ | with_reducible refine AsyN.boolF rfl ?_ | (with_reducible refine AsyN.decT ?_ ?_; focus omega) | refine AsyN.int (by (first | exact wr_i64 (by omega) (by omega) | exact wm_i64 (by omega) | exact wq_i64 (by omega) (by omega) (by omega) | rfl)) ?_ | refine AsyN.any ?_ | refine Asy.ev Tryd.tOk rfl rfl rfl ?_ | refine Asy.unwantedD rfl rfl rfl ?_ | refine Asy.evV rfl rfl rfl rfl (fun _ X_ => OpV.loadN Tryd.tOk rfl rfl rfl rfl (hrx.up (X.trans (Xd_.trans X_)))) ?_ | refine Asy.callN rfl rfl rfl (fun _ _ => (hcx _)) ?_ | refine Asy.evV rfl rfl rfl rfl (fun _ X_ => OpV.load1 Tryd.tOk rfl rfl rfl ((hry.up (X.trans (Xd_.trans X_))) _ _ rfl)) ?_ | refine Asy.evV rfl rfl rfl rfl (fun _ X_ => OpV.load1 Tryd.tOk rfl rfl rfl ((hrx.up (X.trans (Xd_.trans X_))) _ _ rfl)) ?_ | refine Asy.evV rfl rfl rfl rfl (fun _ X_ => OpV.indexS Tryd.tOk (i - 1) rfl rfl rfl (by first | rfl | omega) (by omega)) ?_ | refine Asy.evV rfl rfl rfl rfl (fun _ X_ => OpV.indexS Tryd.tOk _ rfl rfl rfl rfl (by omega)) ?_)
          refine Asy.end_ (by kernel_rfl) ?_
          intro we_ Xe_
          replace X := X.trans (Xd_.trans Xe_)
          repeat' (first | refine RunLN.int (by (first | exact wr_i64 (by omega) (by omega) | exact wm_i64 (by omega) | exact wq_i64 (by omega) (by omega) (by omega) | rfl)) ?_ | refine RunL.ev Tryd.tOk rfl rfl rfl ?_ | refine RunE.condT rfl rfl ?_ | refine RunE.seq ?_ | refine RunE.region ?_ | refine RunL.nil ?_)
          exact RunE.retFn Tryd.func35 (.tmp rfl .nil) ⟨by simp only [oneOr]; unfold chkD; rw [if_neg (by omega), if_neg (by rw [← hg]; simp)], X⟩
  · obtain rfl : i = l.length := by omega
    rw [List.drop_length] at hg
    simp only [goodL] at hg
    repeat' (first | (with_reducible refine RunLN.decF ?_ ?_; focus omega) | refine RunLN.int (by (first | exact wr_i64 (by omega) (by omega) | exact wm_i64 (by omega) | exact wq_i64 (by omega) (by omega) (by omega) | rfl)) ?_ | refine RunLN.any ?_ | refine RunL.ev Tryd.tOk rfl rfl rfl ?_ | refine RunL.evV rfl rfl rfl (OpV.lenSl Tryd.tOk rfl rfl hv) ?_ | refine RunE.condF rfl rfl ?_ | refine RunE.seq ?_ | refine RunE.region ?_ | refine RunL.nil ?_ | refine RunE.exit rfl ?_)
    exact RunE.retFn Tryd.func35 (.tmp rfl .nil) ⟨by simp only [oneOr]; unfold chkD; rw [if_neg (by omega), if_pos hg.symm], X⟩
end Go.Sg
end
section
/- Lists that are compared one by one. -/
namespace Go.Sg
theorem same_lists {α : Type} [DecidableEq α] {a b : List α} (hl : a.length = b.length) {i : Nat} (hp : a.take i = b.take i) : (i = a.length → a = b) ∧ (∀ x y, a[i]? = some x → b[i]? = some y → (x = y → a.take (i + 1) = b.take (i + 1)) ∧ (x ≠ y → a ≠ b)) := by
  refine ⟨fun h => ?_, fun x y hx hy => ⟨fun e => ?_, fun hn e => ?_⟩⟩
  · rw [h, List.take_length, hl, List.take_length] at hp; exact hp
  · rw [List.take_add_one, List.take_add_one, hx, hy, hp, e]
  · subst e; rw [hx] at hy; exact hn (Option.some.inj hy)
end Go.Sg
end
section
/- What comes in, read as data: the shape of its cells. Nothing here knows a program. -/
namespace Go.Rn
open Go.RowKit Go.ChangeShapes Go.WideShapes

/-- What cells of a type hold that can be read. -/
def Shp (P : Program) (w : World) : Nat → TypeId → List Value → Prop
  | 0, _, _ => False
  | f + 1, t, cs => match P.underlying t with
    | some .bool => ∃ b, cs = [.bool b]
    | some (.int k) => ∃ n, cs = [.int k n] ∧ (Lit.int k n).wf = true
    | some .string => ∃ s : ByteArray, cs = [.string s] ∧ s.size ≤ maxLen
    | some (.slice e) => 0 < P.cellsOf e → ∃ v n, ∃ rows : List (List Value), cs = [v] ∧ n ≤ maxLen ∧ rows.length = n ∧ (∀ r ∈ rows, r.length = P.cellsOf e ∧ Shp P w f e r) ∧ IsSl w (P.cellsOf e) v n rows.flatten
    | some (.struct fs) => cs.length = P.cellsOf t ∧ ∀ fl ∈ fs.toList, Shp P w f fl.type ((cs.drop fl.offset).take (P.cellsOf fl.type))
    | some (.array n e) => cs.length = P.cellsOf t ∧ ∀ i, i < n → Shp P w f e ((cs.drop (i * P.cellsOf e)).take (P.cellsOf e))
    | _ => True

theorem mapM_mem {α β : Type} {g : α → Option β} : ∀ {l : List α} {ys : List β}, l.mapM g = some ys → ∀ x ∈ l, ∃ y, g x = some y
  | [], _, _, x, hx => by simp at hx
  | a :: r, ys, h, x, hx => by
    rw [List.mapM_cons] at h
    cases ha : g a with
    | none => simp [ha] at h
    | some y =>
      simp only [ha, Option.bind_eq_bind, Option.bind_some] at h
      cases hr : r.mapM g with
      | none => simp [hr] at h
      | some zs =>
        rcases List.mem_cons.1 hx with rfl | hx
        · exact ⟨y, ha⟩
        · exact mapM_mem hr x hx

theorem flatten_get {sz : Nat} : ∀ (rows : List (List Value)), (∀ r ∈ rows, r.length = sz) → ∀ i j, j < sz → (rows.flatten)[i * sz + j]? = (rows[i]?).bind (·[j]?)
  | [], _, i, j, _ => by simp
  | r :: rest, h, 0, j, hj => by
    have hr := h r (by simp)
    rw [List.flatten_cons, Nat.zero_mul, Nat.zero_add, List.getElem?_append_left (by omega)]; rfl
  | r :: rest, h, i + 1, j, hj => by
    have hr := h r (by simp)
    rw [List.flatten_cons, List.getElem?_append_right (by rw [hr, Nat.add_mul]; omega), hr, show (i + 1) * sz + j - sz = i * sz + j by rw [Nat.add_mul]; omega,
      flatten_get rest (fun x hx => h x (by simp [hx])) i j hj]
    simp
theorem flatten_length {sz : Nat} : ∀ (rows : List (List Value)), (∀ r ∈ rows, r.length = sz) → rows.flatten.length = rows.length * sz
  | [], _ => by simp
  | r :: rest, h => by
    rw [List.flatten_cons, List.length_append, h r (by simp), flatten_length rest (fun x hx => h x (by simp [hx])), List.length_cons, Nat.add_mul]; omega

section
variable {H : Type} {enc : TypeId × Value → H} {P : Program} {w : World} {held : Bool}

theorem shp_of_trod : ∀ (fuel : Nat) (t : TypeId) (cs : List Value) (x : DataW H × List MemPlace), DataW.trod enc P w 0 (fun _ => true) held fuel t cs = some x → Shp P w fuel t cs
  | 0, t, cs, x, h => by simp [DataW.trod] at h
  | fuel + 1, t, cs, x, h => by
    unfold Shp
    split
    · rename_i ht; obtain ⟨b, rfl, -⟩ := DataW.trod_bool ht h; exact ⟨b, rfl⟩
    · rename_i k ht; obtain ⟨n, rfl, -, hw⟩ := DataW.trod_int ht h; exact ⟨n, rfl, hw⟩
    · rename_i ht; obtain ⟨s, rfl, -, hs⟩ := DataW.trod_string ht h; exact ⟨s, rfl, hs⟩
    · rename_i e ht
      intro hpos
      rcases DataW.trod_slice ht h with ⟨rfl, -⟩ | ⟨a, len, cap, elems, rest, n, hfu, rfl, -, -, hlc, hcm, hlen, hel, hsp, -⟩
      · exact ⟨_, 0, [], rfl, by simp [maxLen], rfl, by simp, by simpa using IsSl.nil⟩
      · obtain rfl : fuel = n := by omega
        obtain ⟨hrl, hre⟩ := hsp rfl
        have all : ∀ i, i < cap → ∃ cs', w.cells? 0 (a.add (i * P.cellsOf e)) (P.cellsOf e) = some cs' ∧ ∃ y, DataW.trod enc P w 0 (fun _ => true) held fuel e cs' = some y := by
          intro i hi
          by_cases hil : i < len
          · have h1 := hel i hil
            rw [List.getElem?_eq_getElem (by omega)] at h1
            obtain ⟨cs', h1, h2⟩ := Option.bind_eq_some_iff.1 h1
            exact ⟨cs', h1, _, h2⟩
          · have h1 := hre (i - len) (by omega)
            rw [show len + (i - len) = i by omega, List.getElem?_eq_getElem (by omega)] at h1
            obtain ⟨cs', h1, h2⟩ := Option.bind_eq_some_iff.1 h1
            exact ⟨cs', h1, _, h2⟩
        obtain ⟨F, hF⟩ := Deep.choose_lt (α := List Value) (p := fun i cs' => w.cells? 0 (a.add (i * P.cellsOf e)) (P.cellsOf e) = some cs' ∧ ∃ y, DataW.trod enc P w 0 (fun _ => true) held fuel e cs' = some y) all
        have hlenF : ∀ i, i < cap → (F i).length = P.cellsOf e := fun i hi => (World.cells?_some (hF i hi).1).2.1
        refine ⟨_, len, (List.range len).map F, rfl, by omega, by simp, ?_, ?_⟩
        · intro r hr
          obtain ⟨i, hi, rfl⟩ := List.mem_map.1 hr
          have hi' : i < cap := by have := List.mem_range.1 hi; omega
          obtain ⟨y, hy⟩ := (hF i hi').2
          exact ⟨hlenF i hi', shp_of_trod fuel e _ y hy⟩
        · by_cases h0 : cap = 0
          · subst h0
            obtain rfl : len = 0 := by omega
            simpa using IsSl.nil
          · have hsp : a.spot = none := by
              have h1 := (World.cells?_some (hF 0 (by omega)).1).2.2 0 hpos
              rw [Nat.zero_mul] at h1
              have e0 : (a.add 0).add 0 = a := by simp [Addr.add]
              rw [e0] at h1
              have hl := hlenF 0 (by omega)
              rw [List.getElem?_eq_getElem (by omega)] at h1
              unfold World.cell? at h1
              split at h1
              · split at h1
                · simp at h1
                · rename_i hs; simpa using hs
              · simp at h1
            obtain ⟨ab, ao, asp⟩ := a
            simp only at hsp; subst hsp
            have hrl : ∀ r ∈ (List.range len).map F, r.length = P.cellsOf e := by
              intro r hr
              obtain ⟨i, hi, rfl⟩ := List.mem_map.1 hr
              exact hlenF i (by have := List.mem_range.1 hi; omega)
            refine .row ?_ (by rw [flatten_length _ hrl]; simp) hlc
            intro q v hv
            have hq : q < len * P.cellsOf e := by
              rcases Nat.lt_or_ge q (len * P.cellsOf e) with h | h
              · exact h
              · rw [List.getElem?_eq_none (by rw [flatten_length _ hrl]; simpa using h)] at hv; simp at hv
            have hqi : q / P.cellsOf e < len := Nat.div_lt_of_lt_mul (by rw [Nat.mul_comm]; exact hq)
            have hqj : q % P.cellsOf e < P.cellsOf e := Nat.mod_lt _ hpos
            have hqe : q / P.cellsOf e * P.cellsOf e + q % P.cellsOf e = q := by rw [Nat.mul_comm]; exact Nat.div_add_mod q _
            rw [← hqe, flatten_get _ hrl _ _ hqj] at hv
            simp only [List.getElem?_map, List.getElem?_range hqi, Option.map_some, Option.bind_some] at hv
            have h1 := (World.cells?_some (hF _ (by omega : q / P.cellsOf e < cap)).1).2.2 _ hqj
            rw [hv] at h1
            rw [add_none, add_none] at h1
            rw [← hqe, ← Nat.add_assoc]; exact h1
    · rename_i fs ht
      obtain ⟨xs, n, hfu, -, hl, hxl, hx⟩ := DataW.trod_struct ht h
      obtain rfl : fuel = n := by omega
      refine ⟨hl, fun fl hfl => ?_⟩
      obtain ⟨i, hi, rfl⟩ := List.getElem_of_mem hfl
      have h1 := hx i (fs.toList[i]) (by simp)
      rw [List.getElem?_eq_getElem (by rw [hxl]; simpa using hi)] at h1
      exact shp_of_trod fuel _ _ _ h1
    · rename_i n e ht
      unfold DataW.trod at h
      rw [ht] at h
      split at h <;> simp_all
      obtain ⟨hl, xs, hxs, -⟩ := h
      intro i hi
      obtain ⟨y, hy⟩ := mapM_mem hxs i (by simpa using hi)
      exact shp_of_trod fuel _ _ y hy
    · trivial

theorem shp_of_Trod {t : TypeId} {v : Value} {d : DataW H} {ps : List MemPlace} (h : DataW.Trod enc P w 0 (fun _ => true) held t v d ps) : ∃ fuel, Shp P w fuel t v.cells.toList := by
  obtain ⟨fuel, hf⟩ := h
  exact ⟨fuel, shp_of_trod fuel t _ _ hf⟩
end

/-! ### By kind -/
section
variable {P : Program} {w : World} {fuel : Nat} {t : TypeId} {cs : List Value}
theorem Shp.int {k : IntKind} (h : Shp P w fuel t cs) (ht : P.underlying t = some (.int k)) : ∃ n, cs = [.int k n] ∧ (Lit.int k n).wf = true := by
  cases fuel with
  | zero => exact h.elim
  | succ f => unfold Shp at h; rw [ht] at h; exact h
theorem Shp.bool (h : Shp P w fuel t cs) (ht : P.underlying t = some .bool) : ∃ b, cs = [.bool b] := by
  cases fuel with
  | zero => exact h.elim
  | succ f => unfold Shp at h; rw [ht] at h; exact h
theorem Shp.str (h : Shp P w fuel t cs) (ht : P.underlying t = some .string) : ∃ s : ByteArray, cs = [.string s] ∧ s.size ≤ maxLen := by
  cases fuel with
  | zero => exact h.elim
  | succ f => unfold Shp at h; rw [ht] at h; exact h
theorem Shp.slice {e : TypeId} {sz : Nat} (h : Shp P w fuel t cs) (ht : P.underlying t = some (.slice e)) (hs : P.cellsOf e = sz) (hp : 0 < sz) :
    ∃ f v n, ∃ rows : List (List Value), cs = [v] ∧ n ≤ maxLen ∧ rows.length = n ∧ (∀ r ∈ rows, r.length = sz ∧ Shp P w f e r) ∧ IsSl w sz v n rows.flatten := by
  cases fuel with
  | zero => exact h.elim
  | succ f => unfold Shp at h; rw [ht] at h; subst hs; exact ⟨f, h hp⟩
theorem Shp.struct {fs : Array Field} (h : Shp P w fuel t cs) (ht : P.underlying t = some (.struct fs)) :
    cs.length = P.cellsOf t ∧ ∃ f, ∀ fl ∈ fs.toList, Shp P w f fl.type ((cs.drop fl.offset).take (P.cellsOf fl.type)) := by
  cases fuel with
  | zero => exact h.elim
  | succ f => unfold Shp at h; rw [ht] at h; exact ⟨h.1, f, h.2⟩
theorem Shp.array {n : Nat} {e : TypeId} (h : Shp P w fuel t cs) (ht : P.underlying t = some (.array n e)) :
    cs.length = P.cellsOf t ∧ ∃ f, ∀ i, i < n → Shp P w f e ((cs.drop (i * P.cellsOf e)).take (P.cellsOf e)) := by
  cases fuel with
  | zero => exact h.elim
  | succ f => unfold Shp at h; rw [ht] at h; exact ⟨h.1, f, h.2⟩

theorem u8_cells {n : Int} (h : (Lit.int .u8 n).wf = true) : ∃ b : UInt8, n = (b.toNat : Int) := by
  have e1 : IntKind.u8.min = 0 := rfl
  have e2 : IntKind.u8.max = 255 := rfl
  simp only [Lit.wf, decide_eq_true_eq, Bool.and_eq_true, e1, e2] at h
  refine ⟨UInt8.ofNat n.toNat, ?_⟩
  rw [UInt8.toNat_ofNat']; omega
theorem bytes_of_rows {e : TypeId} {f : Nat} (he : P.underlying e = some (.int .u8)) : ∀ (rows : List (List Value)), (∀ r ∈ rows, r.length = 1 ∧ Shp P w f e r) → ∃ l : List UInt8, rows.flatten = bytesV l ∧ l.length = rows.length
  | [], _ => ⟨[], rfl, rfl⟩
  | r :: rest, h => by
    obtain ⟨l, h1, h2⟩ := bytes_of_rows he rest fun x hx => h x (by simp [hx])
    obtain ⟨n, rfl, hw⟩ := (h r (by simp)).2.int he
    obtain ⟨b, rfl⟩ := u8_cells hw
    exact ⟨b :: l, by simp [h1, bytesV], by simp [h2]⟩
theorem Shp.bytes {e : TypeId} (h : Shp P w fuel t cs) (ht : P.underlying t = some (.slice e)) (he : P.underlying e = some (.int .u8)) (hs : P.cellsOf e = 1) :
    ∃ v, ∃ l : List UInt8, cs = [v] ∧ l.length ≤ maxLen ∧ IsSl w 1 v l.length (bytesV l) := by
  obtain ⟨f, v, n, rows, rfl, hn, hl, hr, hsl⟩ := h.slice ht hs (by decide)
  obtain ⟨l, h1, h2⟩ := bytes_of_rows he rows hr
  rw [h1] at hsl
  exact ⟨v, l, rfl, by omega, by rw [h2, hl]; exact hsl⟩
end
end Go.Rn
end
section
/- Structs whose fields are numbers, bools and texts. -/
namespace Go.Rn
open Go.RowKit Go.ChangeShapes Go.WideShapes
inductive FK where
  | int (k : IntKind)
  | bool
  | str
def FK.desc : FK → TypeDesc
  | .int k => .int k
  | .bool => .bool
  | .str => .string
def FK.ok : FK → Value → Prop
  | .int k, v => ∃ n, v = .int k n
  | .bool, v => ∃ b, v = .bool b
  | .str, v => ∃ s, v = .string s
def FK.wf : FK → Value → Prop
  | .int k, v => ∃ n, v = .int k n ∧ (Lit.int k n).wf = true
  | .bool, v => ∃ b, v = .bool b
  | .str, v => ∃ s : ByteArray, v = .string s ∧ s.size ≤ maxLen
def veq : Value → Value → Bool
  | .int _ a, .int _ b => a == b
  | .bool a, .bool b => a == b
  | .string a, .string b => a.toList == b.toList
  | _, _ => false
def eqAll : List Value → List Value → Bool
  | [], [] => true
  | a :: r, b :: s => veq a b && eqAll r s
  | _, _ => false
/-- A struct type with such fields, one cell each. -/
structure Flat (P : Program) (t : TypeId) (ts : List (TypeId × FK)) : Prop where
  und : P.underlying t = some (.struct (P.fieldsOf t))
  fields : (P.fieldsOf t).toList.map (fun f => ((f.name == "_"), f.type, f.offset)) = ts.zipIdx.map fun x => (false, x.1.1, x.2)
  held : P.stoodInHeld t = false
  guard : P.eqGuardType P.depth t = false
  cells : P.cellsOf t = ts.length
  kinds : ∀ x ∈ ts, P.underlying x.1 = some x.2.desc ∧ cellsAgg P x.1 = some (1, false) ∧ P.cellsOf x.1 = 1
variable {P : Program} {w : World}
theorem run_eqFlat {d : Nat} (xs ys : List Value) : ∀ (fs : List Field) (ts : List (TypeId × FK)) (k : Nat), fs.map (fun f => ((f.name == "_"), f.type, f.offset)) = (ts.zipIdx k).map (fun x => (false, x.1.1, x.2)) →
    (∀ x ∈ ts, P.underlying x.1 = some x.2.desc ∧ cellsAgg P x.1 = some (1, false) ∧ P.cellsOf x.1 = 1) → xs.length = k + ts.length → ys.length = k + ts.length →
    (∀ (i : Nat) (x : TypeId × FK), ts[i]? = some x → ∃ u v, xs[k + i]? = some u ∧ ys[k + i]? = some v ∧ x.2.ok u ∧ x.2.ok v) → (Op.eqFields (d + 1) xs.toArray ys.toArray fs).run P w = .ok (eqAll (xs.drop k) (ys.drop k)) w
  | [], [], k, _, _, hx, hy, _ => by
    rw [List.drop_eq_nil_of_le (by simp at hx; omega), List.drop_eq_nil_of_le (by simp at hy; omega)]; rfl
  | [], t :: ts, k, h, _, _, _, _ => by simp at h
  | f :: fs, [], k, h, _, _, _, _ => by simp at h
  | f :: fs, x :: ts, k, h, hk, hx, hy, hv => by
    simp only [List.map_cons, List.zipIdx_cons, List.cons.injEq, Prod.mk.injEq] at h
    obtain ⟨⟨n0, t0, o0⟩, hr⟩ := h
    have n0' : f.name ≠ "_" := by simpa using n0
    obtain ⟨u, v, hu, hv', ku, kv⟩ := hv 0 x rfl
    obtain ⟨hd, hc, -⟩ := hk x List.mem_cons_self
    rw [Nat.add_zero] at hu hv'
    have pu : (part f.type xs.toArray f.offset).run P w = .ok u w := by rw [t0, o0]; exact run_part hc _ _ (by simpa using hu)
    have pv : (part f.type ys.toArray f.offset).run P w = .ok v w := by rw [t0, o0]; exact run_part hc _ _ (by simpa using hv')
    have pe : (Op.equalIn (d + 1) f.type u v).run P w = .ok (veq u v) w := by
      rw [t0]
      obtain ⟨ti, kd⟩ := x
      cases kd with
      | int kk => obtain ⟨a, rfl⟩ := ku; obtain ⟨b, rfl⟩ := kv; exact run_equalIn_int w d ti kk kk a b hd
      | bool => obtain ⟨a, rfl⟩ := ku; obtain ⟨b, rfl⟩ := kv; exact run_equalIn_bool w d ti a b hd
      | str => obtain ⟨a, rfl⟩ := ku; obtain ⟨b, rfl⟩ := kv; exact run_equalIn_string w d ti a b hd
    have hkx : k < xs.length := by rw [hx]; simp
    have hky : k < ys.length := by rw [hy]; simp
    have e1 : xs.drop k = u :: xs.drop (k + 1) := by rw [List.drop_eq_getElem_cons hkx]; rw [List.getElem?_eq_getElem hkx] at hu; injection hu with hu; rw [hu]
    have e2 : ys.drop k = v :: ys.drop (k + 1) := by rw [List.drop_eq_getElem_cons hky]; rw [List.getElem?_eq_getElem hky] at hv'; injection hv' with hv'; rw [hv']
    have ih := run_eqFlat (d := d) xs ys fs ts (k + 1) hr (fun y hy => hk y (List.mem_cons_of_mem _ hy)) (by rw [hx, List.length_cons]; omega) (by rw [hy, List.length_cons]; omega)
      (fun i y hi => by obtain ⟨u, v, h1, h2, h3⟩ := hv (i + 1) y hi; exact ⟨u, v, by rw [← h1]; congr 1; omega, by rw [← h2]; congr 1; omega, h3⟩)
    simp only [Op.eqFields, n0', ne_eq, not_false_eq_true, if_true]
    rw [run_bind _ _ pu, run_bind _ _ pv, run_bind _ _ pe, e1, e2]
    simp only [eqAll]
    cases hb : veq u v with
    | false => rfl
    | true => simp only [Bool.not_true, Bool.false_eq_true, if_false, Bool.true_and]; exact ih
/-- The cells fit. -/
def fits (ts : List (TypeId × FK)) (cs : List Value) : Prop := cs.length = ts.length ∧ ∀ (i : Nat) (x : TypeId × FK), ts[i]? = some x → ∃ u, cs[i]? = some u ∧ x.2.ok u
theorem Flat.run {t : TypeId} {ts : List (TypeId × FK)} (h : Flat P t ts) {xs ys : List Value} (hx : fits ts xs) (hy : fits ts ys) :
    (Op.equalIn 10000 t (.agg xs.toArray) (.agg ys.toArray)).run P w = .ok (eqAll xs ys) w := by
  rw [show (10000 : Nat) = 9999 + 1 from rfl, run_equalIn_struct w 9999 _ _ _ h.und h.held]
  have := run_eqFlat (P := P) (w := w) (d := 9998) xs ys (P.fieldsOf t).toList ts 0 h.fields h.kinds (by rw [hx.1]; omega) (by rw [hy.1]; omega) (fun i x hi => by
    obtain ⟨u, h1, h2⟩ := hx.2 i x hi
    obtain ⟨v, h3, h4⟩ := hy.2 i x hi
    exact ⟨u, v, by rw [Nat.zero_add]; exact h1, by rw [Nat.zero_add]; exact h3, h2, h4⟩)
  simpa using this
variable {env : Env} {dst : Option Tmp} {ty : TypeId} {pos : String} {after : Array Edge} {guard : Option (Nat × Bool)}
theorem OpV.eqFlat {t u : TypeId} {ts : List (TypeId × FK)} (h : Flat P t ts) {x y : Operand} {xs ys : List Value} (hx : evO env x = some (.agg xs.toArray)) (hy : evO env y = some (.agg ys.toArray)) (h1 : fits ts xs) (h2 : fits ts ys) :
    OpV P env w ⟨dst, .binOp .eql t x y u, ty, pos, after, guard⟩ (.bool (eqAll xs ys)) := .of_run fun ρ hρ => by
  refine ⟨_, by simp only [execOp, hρ _ _ hx, hρ _ _ hy]; rfl, ?_⟩
  rw [run_bind _ _ (run_eqGuard_agg w .eql t x y _ _ h.guard), run_eql_struct, h.run h1 h2]; rfl
theorem OpV.neFlat {t u : TypeId} {ts : List (TypeId × FK)} (h : Flat P t ts) {x y : Operand} {xs ys : List Value} (hx : evO env x = some (.agg xs.toArray)) (hy : evO env y = some (.agg ys.toArray)) (h1 : fits ts xs) (h2 : fits ts ys) :
    OpV P env w ⟨dst, .binOp .neq t x y u, ty, pos, after, guard⟩ (.bool (!(eqAll xs ys))) := .of_run fun ρ hρ => by
  refine ⟨_, by simp only [execOp, hρ _ _ hx, hρ _ _ hy]; rfl, ?_⟩
  rw [run_bind _ _ (run_eqGuard_agg w .neq t x y _ _ h.guard), run_neq_struct, h.run h1 h2]; rfl
/-- What comes in. -/
theorem shp_flat {t : TypeId} {ts : List (TypeId × FK)} (h : Flat P t ts) {fuel : Nat} {cs : List Value} (hs : Shp P w fuel t cs) : cs.length = ts.length ∧ ∀ (i : Nat) (x : TypeId × FK), ts[i]? = some x → ∃ u, cs[i]? = some u ∧ x.2.wf u := by
  obtain ⟨hl, f, hs⟩ := hs.struct h.und
  rw [h.cells] at hl
  refine ⟨hl, fun i x hi => ?_⟩
  have hf := congrArg (·[i]?) h.fields
  simp only [List.getElem?_map, List.getElem?_zipIdx, hi, Option.map_some, Nat.zero_add] at hf
  obtain ⟨fl, hfl, he⟩ := Option.map_eq_some_iff.1 hf
  simp only [Prod.mk.injEq] at he
  obtain ⟨-, t0, o0⟩ := he
  have h0 := hs fl (List.mem_of_getElem? hfl)
  obtain ⟨hd, -, hc⟩ := h.kinds x (List.mem_of_getElem? hi)
  have hilt : i < ts.length := by
    rcases Nat.lt_or_ge i ts.length with h | h
    · exact h
    · rw [List.getElem?_eq_none h] at hi; simp at hi
  have hic : i < cs.length := by omega
  rw [t0, o0, hc, List.drop_eq_getElem_cons hic, List.take_succ_cons, List.take_zero] at h0
  refine ⟨cs[i], List.getElem?_eq_getElem hic, ?_⟩
  obtain ⟨ti, kd⟩ := x
  cases kd with
  | int kk => obtain ⟨n, h1, h2⟩ := h0.int hd; exact ⟨n, (List.cons.inj h1).1, h2⟩
  | bool => obtain ⟨b, h1⟩ := h0.bool hd; exact ⟨b, (List.cons.inj h1).1⟩
  | str => obtain ⟨s, h1, h2⟩ := h0.str hd; exact ⟨s, (List.cons.inj h1).1, h2⟩
end Go.Rn
end
