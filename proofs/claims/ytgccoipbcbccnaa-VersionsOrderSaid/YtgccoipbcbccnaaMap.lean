/- Maps. -/
import Derived.Test.YtgccoipbcbccnaaSl
import Derived.ChangeKeysEq
import Derived.Laws.StructEq
set_option linter.unusedSimpArgs false
set_option linter.unusedVariables false
set_option linter.unusedSectionVars false
namespace Go.Rn
open Go.RowKit
/-- What a map holds, in the order in which its entries came. -/
def setM {α β : Type} [DecidableEq α] (k : α) (v : β) : List (α × β) → List (α × β)
  | [] => [(k, v)]
  | (j, u) :: r => if k = j then (k, v) :: r else (j, u) :: setM k v r
def getM {α β : Type} [DecidableEq α] (k : α) : List (α × β) → Option β
  | [] => none
  | (j, u) :: r => if k = j then some u else getM k r
section
variable {α β : Type} [DecidableEq α]
theorem getM_set (k j : α) (v : β) : ∀ m, getM k (setM j v m) = if k = j then some v else getM k m
  | [] => by simp [setM, getM]
  | (i, u) :: r => by
    simp only [setM]
    by_cases h : j = i
    · subst h
      simp only [if_true, getM]
      by_cases h2 : k = j <;> simp [h2]
    · simp only [if_neg h, getM, getM_set k j v r]
      by_cases h2 : k = i
      · subst h2; simp [Ne.symm h]
      · simp [h2]
theorem getM_mem {k : α} {v : β} : ∀ {m : List (α × β)}, getM k m = some v → (k, v) ∈ m
  | (j, u) :: r, h => by
    simp only [getM] at h
    split at h
    · rename_i e; injection h with h; subst e; subst h; exact List.mem_cons_self
    · exact List.mem_cons_of_mem _ (getM_mem h)
theorem getM_isSome {k : α} : ∀ {m : List (α × β)}, (getM k m).isSome = true ↔ k ∈ m.map (·.1)
  | [] => by simp [getM]
  | (j, u) :: r => by
    simp only [getM, List.map_cons, List.mem_cons]
    by_cases h : k = j
    · simp [h]
    · simp [h, getM_isSome (m := r)]
theorem setM_keys (k : α) (v : β) : ∀ (m : List (α × β)), (setM k v m).map (·.1) = if k ∈ m.map (·.1) then m.map (·.1) else m.map (·.1) ++ [k]
  | [] => by simp [setM]
  | (j, u) :: r => by
    simp only [setM]
    by_cases h : k = j
    · subst h; simp
    · rw [if_neg h, List.map_cons, setM_keys k v r]
      by_cases hm : k ∈ r.map (·.1)
      · rw [if_pos hm, if_pos (show k ∈ ((j, u) :: r).map (·.1) from List.mem_cons_of_mem _ hm)]; rfl
      · rw [if_neg hm, if_neg (show ¬ k ∈ ((j, u) :: r).map (·.1) by simp only [List.map_cons, List.mem_cons, not_or]; exact ⟨h, hm⟩)]; rfl
theorem setM_map {γ : Type} (f : β → γ) (k : α) (v : β) : ∀ (m : List (α × β)), setM k (f v) (m.map fun x => (x.1, f x.2)) = (setM k v m).map fun x => (x.1, f x.2)
  | [] => rfl
  | (j, u) :: r => by
    simp only [setM, List.map_cons]
    by_cases h : k = j
    · simp [h]
    · simp only [if_neg h, List.map_cons, setM_map f k v r]
theorem getM_map {γ : Type} (f : β → γ) (k : α) : ∀ (m : List (α × β)), getM k (m.map fun x => (x.1, f x.2)) = (getM k m).map f
  | [] => rfl
  | (j, u) :: r => by
    simp only [getM, List.map_cons]
    by_cases h : k = j
    · simp [h]
    · simp only [if_neg h, getM_map f k r]
theorem setM_nodup {k : α} {v : β} {m : List (α × β)} (h : (m.map (·.1)).Nodup) : ((setM k v m).map (·.1)).Nodup := by
  rw [setM_keys]
  split
  · exact h
  · rename_i hk
    rw [List.nodup_append]
    refine ⟨h, by simp, fun a ha b hb e => ?_⟩
    simp only [List.mem_singleton] at hb
    subst hb; subst e; exact hk ha
theorem getM_of_mem {k : α} {v : β} : ∀ {m : List (α × β)}, (m.map (·.1)).Nodup → (k, v) ∈ m → getM k m = some v
  | (j, u) :: r, hn, h => by
    simp only [List.map_cons, List.nodup_cons] at hn
    simp only [getM]
    rcases List.mem_cons.1 h with e | h
    · cases e; simp
    · rw [if_neg (fun e => hn.1 (by rw [← e]; exact List.mem_map.2 ⟨(k, v), h, rfl⟩))]
      exact getM_of_mem hn.2 h
def entsOk (kv : α → Value) (good : α → Prop) (es : List MapEntry) (m : List (α × Value)) : Prop := es.map (fun e => (e.key, e.val)) = m.map (fun x => (kv x.1, x.2)) ∧ ∀ x ∈ m, good x.1
def bornOk (es : List MapEntry) (c : Nat) : Prop := (es.map (·.born)).Nodup ∧ ∀ e ∈ es, e.born < c
def MapK (kv : α → Value) (good : α → Prop) (w : World) (r : Nat) (m : List (α × Value)) : Prop := ∃ (es : Array MapEntry) (clock : Nat), w.heap[r]? = some (.map es clock) ∧ entsOk kv good es.toList m ∧ bornOk es.toList clock
theorem MapK.lt {kv : α → Value} {good : α → Prop} {w : World} {r : Nat} {m : List (α × Value)} (h : MapK kv good w r m) : r < w.heap.size := by
  obtain ⟨es, c, h, -⟩ := h; exact lt_of_get h
theorem MapK.ext {kv : α → Value} {good : α → Prop} {S : Nat → Prop} {w w' : World} {r : Nat} {m : List (α × Value)} (h : MapK kv good w r m) (e : ExtB S w w') (hn : ¬ S r) : MapK kv good w' r m := by
  obtain ⟨es, c, h1, h2⟩ := h
  exact ⟨es, c, by rw [e.block r (lt_of_get h1) hn]; exact h1, h2⟩
/-- How a key is found. -/
def Found (kv : α → Value) (good : α → Prop) (k : α) (es : List MapEntry) (m : List (α × Value)) (i : Nat) : Option (Nat × Value) → Prop
  | none => getM k m = none ∧ ∀ v, setM k v m = m ++ [(k, v)]
  | some (j, u) => getM k m = some u ∧ i ≤ j ∧ (∃ e, es[j - i]? = some e ∧ e.key = kv k) ∧ ∀ v, entsOk kv good (es.modify (j - i) fun e => { e with key := kv k, val := v }) (setM k v m)
structure KeyOk (P : Program) (kt : TypeId) (kv : α → Value) (good : α → Prop) : Prop where
  find : ∀ (w : World) (k : α) (es : List MapEntry) (m : List (α × Value)), good k → entsOk kv good es m → ∃ r, (Instr.findKey kt (kv k) es).run P w = .ok r w ∧ Found kv good k es m 0 r
  check : ∀ (w : World) (k : α) (b : Bool), good k → (Instr.checkKey b 10000 kt (kv k)).run P w = .ok () w
  same : ∀ k : α, good k → Instr.sameBits 10000 (kv k) (kv k) = true
theorem found_nil {kv : α → Value} {good : α → Prop} (k : α) {m : List (α × Value)} (i : Nat) (h : entsOk kv good [] m) : Found kv good k [] m i none := by
  have : m = [] := by cases m with | nil => rfl | cons => simp [entsOk] at h
  subst this
  exact ⟨rfl, fun v => rfl⟩
theorem found_cons {kv : α → Value} {good : α → Prop} {k : α} {e : MapEntry} {es : List MapEntry} {m : List (α × Value)} {i : Nat} (hg : good k) (h : entsOk kv good (e :: es) m) :
    ∃ j u m', m = (j, u) :: m' ∧ e.key = kv j ∧ good j ∧ entsOk kv good es m' ∧ (k = j → Found kv good k (e :: es) m i (some (i, e.val))) ∧ (k ≠ j → ∀ r, Found kv good k es m' (i + 1) r → Found kv good k (e :: es) m i r) := by
  obtain ⟨⟨j, u⟩, m', rfl⟩ : ∃ x m', m = x :: m' := by cases m with | nil => simp [entsOk] at h | cons x m' => exact ⟨x, m', rfl⟩
  obtain ⟨h, hgs⟩ := h
  simp only [List.map_cons, List.cons.injEq, Prod.mk.injEq] at h
  obtain ⟨⟨hk, hv⟩, hr⟩ := h
  have hgm : ∀ x ∈ m', good x.1 := fun x hx => hgs x (List.mem_cons_of_mem _ hx)
  refine ⟨j, u, m', rfl, hk, hgs _ List.mem_cons_self, ⟨hr, hgm⟩, fun hkj => ?_, fun hkj r h2 => ?_⟩
  · subst hkj
    simp only [Found]
    refine ⟨by simp [getM, hv], Nat.le_refl i, ⟨e, by simp, hk⟩, fun v => ?_⟩
    refine ⟨by simp [setM, hr], fun x hx => ?_⟩
    simp only [setM, if_true] at hx
    rcases List.mem_cons.1 hx with rfl | hx
    · exact hg
    · exact hgm x hx
  · match r, h2 with
    | none, h2 => exact ⟨by simp [getM, hkj, h2.1], fun v => by simp [setM, hkj, h2.2]⟩
    | some (q, u'), h2 =>
      simp only [Found] at h2 ⊢
      obtain ⟨h3, h4, ⟨e', h5, h6⟩, h7⟩ := h2
      have hq : q - i = (q - (i + 1)) + 1 := by omega
      refine ⟨by simp [getM, hkj, h3], by omega, ⟨e', by rw [hq]; simpa using h5, h6⟩, fun v => ?_⟩
      rw [hq]
      obtain ⟨h8, h9⟩ := h7 v
      refine ⟨by simp [setM, hkj, h8, hk, hv], fun x hx => ?_⟩
      simp only [setM, if_neg hkj] at hx
      rcases List.mem_cons.1 hx with rfl | hx
      · exact hgs _ List.mem_cons_self
      · exact h9 x hx
end
/-! ### Integer keys -/
theorem findNow_ok {kd : IntKind} (k : Int) : ∀ (es : List MapEntry) (m : List (Int × Value)) (i : Nat), entsOk (Value.int kd) (fun _ => True) es m →
    ∃ r, Instr.findNow (.int kd) (.int kd k) es i = some r ∧ Found (Value.int kd) (fun _ => True) k es m i r
  | [], m, i, h => ⟨none, rfl, found_nil k i h⟩
  | e :: es, m, i, h => by
    obtain ⟨j, u, m', -, hk, -, hr, h1, h2⟩ := found_cons (k := k) (i := i) trivial h
    simp only [Instr.findNow, hk, Instr.sameNow, if_true]
    by_cases hkj : k = j
    · exact ⟨some (i, e.val), by simp [hkj], h1 hkj⟩
    · have hb : (k == j) = false := by simpa using hkj
      rw [hb]
      obtain ⟨r, h3, h4⟩ := findNow_ok k es m' (i + 1) hr
      exact ⟨r, h3, h2 hkj r h4⟩
theorem keyOk_int {P : Program} {kt : TypeId} {kd : IntKind} (hk : P.underlying kt = some (.int kd)) : KeyOk P kt (Value.int kd) fun _ => True where
  find w k es m _ h := by
    obtain ⟨r, h1, h2⟩ := findNow_ok k es m 0 h
    refine ⟨r, ?_, h2⟩
    unfold Instr.findKey
    rw [run_bind _ _ (run_underlying hk), h1]; rfl
  check w k b _ := by
    show (Instr.checkKey b (9999 + 1) kt _).run P w = _
    unfold Instr.checkKey
    rw [run_bind _ _ (run_underlying hk)]
    rfl
  same k _ := by simp [Instr.sameBits]
/-! ### Arrays of bytes -/
/-- An array type of n bytes. -/
structure BytesArr (P : Program) (t e : TypeId) (n : Nat) : Prop where
  und : P.underlying t = some (.array n e)
  elem : P.underlying e = some (.int .u8)
  cells : cellsAgg P e = some (1, false)
  one : P.cellsOf e = 1
  guard : P.eqGuardType P.depth t = false
def digV (l : List UInt8) : Value := .agg (bytesV l).toArray
section
variable {P : Program} {w : World}
theorem run_eqItems_bytes {t e : TypeId} {n : Nat} (h : BytesArr P t e n) (d : Nat) (a b : List UInt8) (ha : a.length = n) (hb : b.length = n) : ∀ (m i : Nat), i + m = n →
    (Op.eqItems (d + 1) e 1 (bytesV a).toArray (bytesV b).toArray (List.range' i m)).run P w = .ok (a.drop i == b.drop i) w
  | 0, i, hi => by
    have e1 : a.drop i = [] := List.drop_eq_nil_of_le (by omega)
    have e2 : b.drop i = [] := List.drop_eq_nil_of_le (by omega)
    rw [e1, e2]; rfl
  | m + 1, i, hi => by
    have hia : i < a.length := by omega
    have hib : i < b.length := by omega
    have pa : (part e (bytesV a).toArray (i * 1)).run P w = .ok (.int .u8 (a[i].toNat : Int)) w := run_part h.cells _ _ (by simp [bytesV, hia])
    have pb : (part e (bytesV b).toArray (i * 1)).run P w = .ok (.int .u8 (b[i].toNat : Int)) w := run_part h.cells _ _ (by simp [bytesV, hib])
    have pe := run_equalIn_int (P := P) w d e .u8 .u8 (a[i].toNat : Int) (b[i].toNat : Int) h.elem
    rw [List.range'_succ]
    simp only [Op.eqItems]
    rw [run_bind _ _ pa, run_bind _ _ pb, run_bind _ _ pe]
    have e1 : a.drop i = a[i] :: a.drop (i + 1) := List.drop_eq_getElem_cons hia
    have e2 : b.drop i = b[i] :: b.drop (i + 1) := List.drop_eq_getElem_cons hib
    have eq : ((a[i].toNat : Int) == (b[i].toNat : Int)) = (a[i] == b[i]) := by
      rw [Bool.eq_iff_iff]; simp only [beq_iff_eq]
      constructor
      · intro h; exact UInt8.toNat_inj.1 (by omega)
      · intro h; rw [h]
    rw [eq, e1, e2]
    cases hab : (a[i] == b[i]) with
    | false =>
      have : (a[i] :: a.drop (i + 1) == b[i] :: b.drop (i + 1)) = false := by rw [List.cons_beq_cons, hab, Bool.false_and]
      rw [this]; rfl
    | true =>
      have : (a[i] :: a.drop (i + 1) == b[i] :: b.drop (i + 1)) = (a.drop (i + 1) == b.drop (i + 1)) := by rw [List.cons_beq_cons, hab, Bool.true_and]
      rw [this]
      exact run_eqItems_bytes h d a b ha hb m (i + 1) (by omega)
theorem run_equal_bytes {t e : TypeId} {n : Nat} (h : BytesArr P t e n) (a b : List UInt8) (ha : a.length = n) (hb : b.length = n) : (Op.equal t (digV a) (digV b)).run P w = .ok (a == b) w := by
  obtain ⟨i, _, hi, _, _, _⟩ := cellsAgg_inv h.cells
  show (Op.equalIn (9999 + 1) t _ _).run P w = _
  unfold digV
  rw [run_equalIn_array w 9999 _ _ h.und hi, h.one, List.range_eq_range']
  have := run_eqItems_bytes (w := w) h 9998 a b ha hb n 0 (by omega)
  simpa using this
variable {env : Env} {dst : Option Tmp} {ty : TypeId} {pos : String} {after : Array Edge} {guard : Option (Nat × Bool)}
theorem OpV.eqBytes {t e u : TypeId} {n : Nat} (h : BytesArr P t e n) {x y : Operand} {a b : List UInt8} (hx : evO env x = some (digV a)) (hy : evO env y = some (digV b)) (ha : a.length = n) (hb : b.length = n) :
    OpV P env w ⟨dst, .binOp .eql t x y u, ty, pos, after, guard⟩ (.bool (a == b)) := .of_run fun ρ hρ => by
  refine ⟨_, by simp only [execOp, hρ _ _ hx, hρ _ _ hy]; rfl, ?_⟩
  have h1 := run_eqGuard_agg (P := P) w .eql t x y (bytesV a).toArray (bytesV b).toArray h.guard
  have h2 := run_eql_struct (P := P) w t (bytesV a).toArray (bytesV b).toArray
  have h3 := run_equal_bytes (w := w) h a b ha hb
  unfold digV at h3 ⊢
  rw [run_bind _ _ h1, h2]
  have h4 : (Op.equalIn 10000 t (.agg (bytesV a).toArray) (.agg (bytesV b).toArray)).run P w = .ok (a == b) w := h3
  rw [h4]; rfl
theorem OpV.neBytes {t e u : TypeId} {n : Nat} (h : BytesArr P t e n) {x y : Operand} {a b : List UInt8} (hx : evO env x = some (digV a)) (hy : evO env y = some (digV b)) (ha : a.length = n) (hb : b.length = n) :
    OpV P env w ⟨dst, .binOp .neq t x y u, ty, pos, after, guard⟩ (.bool (!(a == b))) := .of_run fun ρ hρ => by
  refine ⟨_, by simp only [execOp, hρ _ _ hx, hρ _ _ hy]; rfl, ?_⟩
  have h1 := run_eqGuard_agg (P := P) w .neq t x y (bytesV a).toArray (bytesV b).toArray h.guard
  have h2 := run_neq_struct (P := P) w t (bytesV a).toArray (bytesV b).toArray
  have h3 := run_equal_bytes (w := w) h a b ha hb
  unfold digV at h3 ⊢
  rw [run_bind _ _ h1, h2]
  have h4 : (Op.equalIn 10000 t (.agg (bytesV a).toArray) (.agg (bytesV b).toArray)).run P w = .ok (a == b) w := h3
  rw [h4]; rfl
end
/-! ### Operations -/
section
variable {α : Type} [DecidableEq α] {kv : α → Value} {good : α → Prop}
variable {P : Program} {w : World} {env : Env} {dst : Option Tmp} {ty : TypeId} {pos : String} {after : Array Edge} {guard : Option (Nat × Bool)}
theorem OpE.makeMap (kv : α → Value) (good : α → Prop) {t : TypeId} : OpE P env w ⟨dst, .makeMap t none, ty, pos, after, guard⟩ (fun v w' => ∃ r, v = .map (some r) ∧ Added w w' r (.map #[] 0) ∧ MapK kv good w' r []) fun _ _ => False :=
  .of_run (w' := _) (v := _) ⟨w.heap.size, rfl, added_push w _, ⟨#[], 0, (added_push w _).at_, ⟨rfl, fun _ h => by simp at h⟩, ⟨by simp, fun _ h => by simp at h⟩⟩⟩ fun ρ hρ => ⟨_, rfl, rfl⟩
theorem run_lookup_ok {t kt et : TypeId} {r : Nat} {k : α} {m : List (α × Value)} {z : Value} (ht : P.underlying t = some (.map kt et)) (hk : KeyOk P kt kv good) (hz : (P.info? et).bind (·.zero) = some z)
    (hg : good k) (hm : MapK kv good w r m) (ok : Bool) : (Instr.lookup t (.map (some r)) (kv k) ok).run P w = .ok (if ok then .tuple #[(getM k m).getD z, .bool (getM k m).isSome] else (getM k m).getD z) w := by
  obtain ⟨es, c, h1, h2, -⟩ := hm
  obtain ⟨i, hi, hiz⟩ := Option.bind_eq_some_iff.1 hz
  have hzr : (zeroValue et).run P w = .ok z w := by unfold zeroValue; rw [run_bind _ _ (run_typeInfo hi), hiz]; rfl
  obtain ⟨q, hf, h4⟩ := hk.find w k es.toList m hg h2
  unfold Instr.lookup
  rw [run_bind _ _ (run_underlying ht)]
  simp only
  rw [run_bind _ _ (run_getObj h1 (by intros; simp))]
  simp only
  rw [run_bind (v := es) (w' := w) _ _ rfl, run_bind _ _ (hk.check w k _ hg)]
  match q, h4, hf with
  | none, h4, hf =>
    rw [run_bind _ _ hf]
    simp only
    rw [run_bind _ _ hzr, h4.1]; rfl
  | some (j, u), h4, hf =>
    rw [run_bind _ _ hf, h4.1]; rfl
theorem OpV.lookup {t kt et : TypeId} {x y : Operand} {r : Nat} {k : α} {m : List (α × Value)} {z : Value} (ht : P.underlying t = some (.map kt et)) (hk : KeyOk P kt kv good) (hz : (P.info? et).bind (·.zero) = some z)
    (hx : evO env x = some (.map (some r))) (hy : evO env y = some (kv k)) (hg : good k) (hm : MapK kv good w r m) :
    OpV P env w ⟨dst, .lookup t x y false, ty, pos, after, guard⟩ ((getM k m).getD z) := .of_run fun ρ hρ =>
  ⟨_, by simp only [execOp, hρ _ _ hx, hρ _ _ hy] <;> rfl, run_lookup_ok ht hk hz hg hm false⟩
theorem OpV.lookup2 {t kt et : TypeId} {x y : Operand} {r : Nat} {k : α} {m : List (α × Value)} {z : Value} (ht : P.underlying t = some (.map kt et)) (hk : KeyOk P kt kv good) (hz : (P.info? et).bind (·.zero) = some z)
    (hx : evO env x = some (.map (some r))) (hy : evO env y = some (kv k)) (hg : good k) (hm : MapK kv good w r m) :
    OpV P env w ⟨dst, .lookup t x y true, ty, pos, after, guard⟩ (.tuple #[(getM k m).getD z, .bool (getM k m).isSome]) := .of_run fun ρ hρ =>
  ⟨_, by simp only [execOp, hρ _ _ hx, hρ _ _ hy] <;> rfl, run_lookup_ok ht hk hz hg hm true⟩
theorem OpE.mapSet {t kt et : TypeId} {x y zz : Operand} {r : Nat} {k : α} {v : Value} {m : List (α × Value)} (ht : P.underlying t = some (.map kt et)) (hk : KeyOk P kt kv good)
    (hx : evO env x = some (.map (some r))) (hy : evO env y = some (kv k)) (hv : evO env zz = some v) (hg : good k) (hm : MapK kv good w r m) :
    OpE P env w ⟨dst, .mapUpdate t x y zz, ty, pos, after, guard⟩ (fun _ w' => MapK kv good w' r (setM k v m) ∧ ExtB (· = r) w w' ∧ w'.heap.size = w.heap.size) fun _ _ => False := by
  obtain ⟨es, c, h1, h2, hbo⟩ := hm
  obtain ⟨q, hf, h4⟩ := hk.find w k es.toList m hg h2
  have hlt := lt_of_get h1
  obtain ⟨es', c', hes, hbo', hrun⟩ : ∃ es' c', entsOk kv good es'.toList (setM k v m) ∧ bornOk es'.toList c' ∧ (Instr.mapUpdate t (.map (some r)) (kv k) v).run P w = .ok () (World.setObj w r (.map es' c')) := by
    unfold Instr.mapUpdate
    match q, h4, hf with
    | none, h4, hf =>
      refine ⟨es.push { key := kv k, val := v, born := c }, c + 1, ?_, ?_, ?_⟩
      rotate_left
      · obtain ⟨b1, b2⟩ := hbo
        refine ⟨?_, fun e he => ?_⟩
        · rw [Array.toList_push, List.map_append, List.map_singleton, List.nodup_append]
          refine ⟨b1, by simp, fun a ha b hb => ?_⟩
          simp only [List.mem_singleton] at hb; subst hb
          obtain ⟨e, he, rfl⟩ := List.mem_map.1 ha
          have := b2 e he
          exact Nat.ne_of_lt this
        · rw [Array.toList_push] at he
          rcases List.mem_append.1 he with he | he
          · have := b2 e he; omega
          · simp only [List.mem_singleton] at he; subst he; exact Nat.lt_succ_self c
      rotate_left
      · rw [h4.2]
        refine ⟨by have := h2.1; simp [this], fun x hx => ?_⟩
        rcases List.mem_append.1 hx with hx | hx
        · exact h2.2 x hx
        · simp at hx; subst hx; exact hg
      · rw [run_bind _ _ (run_underlying ht)]
        simp only
        rw [run_bind _ _ (run_getObj h1 (by intros; simp))]
        simp only
        rw [run_bind _ _ (hk.check w k _ hg), run_bind _ _ hf]
        exact run_setObj h1 (by intros; simp)
    | some (j, u), h4, hf =>
      simp only [Found, Nat.sub_zero] at h4
      obtain ⟨-, -, ⟨e, he, hek⟩, h7⟩ := h4
      refine ⟨es.modify j fun e => { e with key := kv k, val := v }, c, ?_, ?_, ?_⟩
      · rw [Array.toList_modify]; exact h7 v
      · obtain ⟨b1, b2⟩ := hbo
        have hmp : (es.toList.modify j fun e => { e with key := kv k, val := v }).map (·.born) = es.toList.map (·.born) := by
          apply List.ext_getElem?
          intro i
          simp only [List.getElem?_map, List.getElem?_modify]
          cases es.toList[i]? with
          | none => rfl
          | some e => by_cases h : j = i <;> simp [h]
        rw [Array.toList_modify]
        refine ⟨by rw [hmp]; exact b1, fun e he => ?_⟩
        have : e.born ∈ (es.toList.modify j fun e => { e with key := kv k, val := v }).map (·.born) := List.mem_map.2 ⟨e, he, rfl⟩
        rw [hmp] at this
        obtain ⟨e', he', hb⟩ := List.mem_map.1 this
        rw [← hb]; exact b2 e' he'
      · rw [run_bind _ _ (run_underlying ht)]
        simp only
        rw [run_bind _ _ (run_getObj h1 (by intros; simp))]
        simp only
        rw [run_bind _ _ (hk.check w k _ hg), run_bind _ _ hf]
        simp only
        have hgk : ((es[j]?).map (·.key)).getD (kv k) = kv k := by
          rw [Array.getElem?_toList] at he
          rw [he]; simp [hek]
        rw [hgk]
        have hks : (Instr.keyThatStays (kv k) (kv k)).run P w = .ok (kv k) w := by
          unfold Instr.keyThatStays
          rw [hk.same k hg]; rfl
        rw [run_bind _ _ hks]
        exact run_setObj h1 (by intros; simp)
  have ht' := turned_set w hlt (.map es' c')
  intro ρ hρ
  have he : execOp ρ ⟨dst, .mapUpdate t x y zz, ty, pos, after, guard⟩ = (do Instr.mapUpdate t (.map (some r)) (kv k) v; pure .skip : Sem Next) := by
    simp only [execOp, hρ _ _ hx, hρ _ _ hy, hρ _ _ hv]
  exact ExecE.of_skip (w' := World.setObj w r (.map es' c')) (by rw [he, run_bind _ _ hrun]; rfl) ⟨⟨es', c', ht'.at_, hes, hbo'⟩, ht'.ext, ht'.size⟩
end
end Go.Rn
