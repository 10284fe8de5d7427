/- Parts of this project that the claims share: Map, Open, Flat, Step, OpenL, CloseT, Bits, Sha1, Sha2, ShaS. -/
import Derived.Test.YtamcgoplhnbmcaaDoorN02
import Derived.ChangeKeysEq
import Derived.Laws.StructEq
import Derived.ChangeArms
import Derived.Deep.Slices
import Derived.Test.YtamcgoplhnbmcaaDoorN01
import Derived.Test.YtamcgoplhnbmcaaDoorTie
import Derived.Test.YtamcgoplhnbmcaaDoorCards
import Derived.LaidMore
import Derived.Stop.Joined
import Derived.MakeChecks
import Derived.ChangeMaps5
set_option linter.unusedSimpArgs false
set_option linter.unusedVariables false
set_option linter.unusedSectionVars false
section
/- Maps. -/
namespace Go.Rn
open Go.RowKit
/-- What a map holds, in the order in which its entries came. -/
def setM {α β : Type} [DecidableEq α] (k : α) (v : β) : List (α × β) → List (α × β)
  | [] => [(k, v)]
  | (j, u) :: r => if k = j then (k, v) :: r else (j, u) :: setM k v r
def getM {α β : Type} [DecidableEq α] (k : α) : List (α × β) → Option β
  | [] => none
  | (j, u) :: r => if k = j then some u else getM k r
section
variable {α β : Type} [DecidableEq α]
theorem getM_set (k j : α) (v : β) : ∀ m, getM k (setM j v m) = if k = j then some v else getM k m
  | [] => by simp [setM, getM]
  | (i, u) :: r => by
    simp only [setM]
    by_cases h : j = i
    · subst h
      simp only [if_true, getM]
      by_cases h2 : k = j <;> simp [h2]
    · simp only [if_neg h, getM, getM_set k j v r]
      by_cases h2 : k = i
      · subst h2; simp [Ne.symm h]
      · simp [h2]
theorem getM_mem {k : α} {v : β} : ∀ {m : List (α × β)}, getM k m = some v → (k, v) ∈ m
  | (j, u) :: r, h => by
    simp only [getM] at h
    split at h
    · rename_i e; injection h with h; subst e; subst h; exact List.mem_cons_self
    · exact List.mem_cons_of_mem _ (getM_mem h)
theorem getM_isSome {k : α} : ∀ {m : List (α × β)}, (getM k m).isSome = true ↔ k ∈ m.map (·.1)
  | [] => by simp [getM]
  | (j, u) :: r => by
    simp only [getM, List.map_cons, List.mem_cons]
    by_cases h : k = j
    · simp [h]
    · simp [h, getM_isSome (m := r)]
theorem setM_keys (k : α) (v : β) : ∀ (m : List (α × β)), (setM k v m).map (·.1) = if k ∈ m.map (·.1) then m.map (·.1) else m.map (·.1) ++ [k]
  | [] => by simp [setM]
  | (j, u) :: r => by
    simp only [setM]
    by_cases h : k = j
    · subst h; simp
    · rw [if_neg h, List.map_cons, setM_keys k v r]
      by_cases hm : k ∈ r.map (·.1)
      · rw [if_pos hm, if_pos (show k ∈ ((j, u) :: r).map (·.1) from List.mem_cons_of_mem _ hm)]; rfl
      · rw [if_neg hm, if_neg (show ¬ k ∈ ((j, u) :: r).map (·.1) by simp only [List.map_cons, List.mem_cons, not_or]; exact ⟨h, hm⟩)]; rfl
theorem setM_map {γ : Type} (f : β → γ) (k : α) (v : β) : ∀ (m : List (α × β)), setM k (f v) (m.map fun x => (x.1, f x.2)) = (setM k v m).map fun x => (x.1, f x.2)
  | [] => rfl
  | (j, u) :: r => by
    simp only [setM, List.map_cons]
    by_cases h : k = j
    · simp [h]
    · simp only [if_neg h, List.map_cons, setM_map f k v r]
theorem getM_map {γ : Type} (f : β → γ) (k : α) : ∀ (m : List (α × β)), getM k (m.map fun x => (x.1, f x.2)) = (getM k m).map f
  | [] => rfl
  | (j, u) :: r => by
    simp only [getM, List.map_cons]
    by_cases h : k = j
    · simp [h]
    · simp only [if_neg h, getM_map f k r]
theorem setM_nodup {k : α} {v : β} {m : List (α × β)} (h : (m.map (·.1)).Nodup) : ((setM k v m).map (·.1)).Nodup := by
  rw [setM_keys]
  split
  · exact h
  · rename_i hk
    rw [List.nodup_append]
    refine ⟨h, by simp, fun a ha b hb e => ?_⟩
    simp only [List.mem_singleton] at hb
    subst hb; subst e; exact hk ha
theorem getM_of_mem {k : α} {v : β} : ∀ {m : List (α × β)}, (m.map (·.1)).Nodup → (k, v) ∈ m → getM k m = some v
  | (j, u) :: r, hn, h => by
    simp only [List.map_cons, List.nodup_cons] at hn
    simp only [getM]
    rcases List.mem_cons.1 h with e | h
    · cases e; simp
    · rw [if_neg (fun e => hn.1 (by rw [← e]; exact List.mem_map.2 ⟨(k, v), h, rfl⟩))]
      exact getM_of_mem hn.2 h
def entsOk (kv : α → Value) (good : α → Prop) (es : List MapEntry) (m : List (α × Value)) : Prop := es.map (fun e => (e.key, e.val)) = m.map (fun x => (kv x.1, x.2)) ∧ ∀ x ∈ m, good x.1
def bornOk (es : List MapEntry) (c : Nat) : Prop := (es.map (·.born)).Nodup ∧ ∀ e ∈ es, e.born < c
def MapK (kv : α → Value) (good : α → Prop) (w : World) (r : Nat) (m : List (α × Value)) : Prop := ∃ (es : Array MapEntry) (clock : Nat), w.heap[r]? = some (.map es clock) ∧ entsOk kv good es.toList m ∧ bornOk es.toList clock
theorem MapK.lt {kv : α → Value} {good : α → Prop} {w : World} {r : Nat} {m : List (α × Value)} (h : MapK kv good w r m) : r < w.heap.size := by
  obtain ⟨es, c, h, -⟩ := h; exact lt_of_get h
theorem MapK.ext {kv : α → Value} {good : α → Prop} {S : Nat → Prop} {w w' : World} {r : Nat} {m : List (α × Value)} (h : MapK kv good w r m) (e : ExtB S w w') (hn : ¬ S r) : MapK kv good w' r m := by
  obtain ⟨es, c, h1, h2⟩ := h
  exact ⟨es, c, by rw [e.block r (lt_of_get h1) hn]; exact h1, h2⟩
/-- How a key is found. -/
def Found (kv : α → Value) (good : α → Prop) (k : α) (es : List MapEntry) (m : List (α × Value)) (i : Nat) : Option (Nat × Value) → Prop
  | none => getM k m = none ∧ ∀ v, setM k v m = m ++ [(k, v)]
  | some (j, u) => getM k m = some u ∧ i ≤ j ∧ (∃ e, es[j - i]? = some e ∧ e.key = kv k) ∧ ∀ v, entsOk kv good (es.modify (j - i) fun e => { e with key := kv k, val := v }) (setM k v m)
structure KeyOk (P : Program) (kt : TypeId) (kv : α → Value) (good : α → Prop) : Prop where
  find : ∀ (w : World) (k : α) (es : List MapEntry) (m : List (α × Value)), good k → entsOk kv good es m → ∃ r, (Instr.findKey kt (kv k) es).run P w = .ok r w ∧ Found kv good k es m 0 r
  check : ∀ (w : World) (k : α) (b : Bool), good k → (Instr.checkKey b 10000 kt (kv k)).run P w = .ok () w
  same : ∀ k : α, good k → Instr.sameBits 10000 (kv k) (kv k) = true
theorem found_nil {kv : α → Value} {good : α → Prop} (k : α) {m : List (α × Value)} (i : Nat) (h : entsOk kv good [] m) : Found kv good k [] m i none := by
  have : m = [] := by cases m with | nil => rfl | cons => simp [entsOk] at h
  subst this
  exact ⟨rfl, fun v => rfl⟩
theorem found_cons {kv : α → Value} {good : α → Prop} {k : α} {e : MapEntry} {es : List MapEntry} {m : List (α × Value)} {i : Nat} (hg : good k) (h : entsOk kv good (e :: es) m) :
    ∃ j u m', m = (j, u) :: m' ∧ e.key = kv j ∧ good j ∧ entsOk kv good es m' ∧ (k = j → Found kv good k (e :: es) m i (some (i, e.val))) ∧ (k ≠ j → ∀ r, Found kv good k es m' (i + 1) r → Found kv good k (e :: es) m i r) := by
  obtain ⟨⟨j, u⟩, m', rfl⟩ : ∃ x m', m = x :: m' := by cases m with | nil => simp [entsOk] at h | cons x m' => exact ⟨x, m', rfl⟩
  obtain ⟨h, hgs⟩ := h
  simp only [List.map_cons, List.cons.injEq, Prod.mk.injEq] at h
  obtain ⟨⟨hk, hv⟩, hr⟩ := h
  have hgm : ∀ x ∈ m', good x.1 := fun x hx => hgs x (List.mem_cons_of_mem _ hx)
  refine ⟨j, u, m', rfl, hk, hgs _ List.mem_cons_self, ⟨hr, hgm⟩, fun hkj => ?_, fun hkj r h2 => ?_⟩
  · subst hkj
    simp only [Found]
    refine ⟨by simp [getM, hv], Nat.le_refl i, ⟨e, by simp, hk⟩, fun v => ?_⟩
    refine ⟨by simp [setM, hr], fun x hx => ?_⟩
    simp only [setM, if_true] at hx
    rcases List.mem_cons.1 hx with rfl | hx
    · exact hg
    · exact hgm x hx
  · match r, h2 with
    | none, h2 => exact ⟨by simp [getM, hkj, h2.1], fun v => by simp [setM, hkj, h2.2]⟩
    | some (q, u'), h2 =>
      simp only [Found] at h2 ⊢
      obtain ⟨h3, h4, ⟨e', h5, h6⟩, h7⟩ := h2
      have hq : q - i = (q - (i + 1)) + 1 := by omega
      refine ⟨by simp [getM, hkj, h3], by omega, ⟨e', by rw [hq]; simpa using h5, h6⟩, fun v => ?_⟩
      rw [hq]
      obtain ⟨h8, h9⟩ := h7 v
      refine ⟨by simp [setM, hkj, h8, hk, hv], fun x hx => ?_⟩
      simp only [setM, if_neg hkj] at hx
      rcases List.mem_cons.1 hx with rfl | hx
      · exact hgs _ List.mem_cons_self
      · exact h9 x hx
end
/-! ### Integer keys -/
theorem findNow_ok {kd : IntKind} (k : Int) : ∀ (es : List MapEntry) (m : List (Int × Value)) (i : Nat), entsOk (Value.int kd) (fun _ => True) es m →
    ∃ r, Instr.findNow (.int kd) (.int kd k) es i = some r ∧ Found (Value.int kd) (fun _ => True) k es m i r
  | [], m, i, h => ⟨none, rfl, found_nil k i h⟩
  | e :: es, m, i, h => by
    obtain ⟨j, u, m', -, hk, -, hr, h1, h2⟩ := found_cons (k := k) (i := i) trivial h
    simp only [Instr.findNow, hk, Instr.sameNow, if_true]
    by_cases hkj : k = j
    · exact ⟨some (i, e.val), by simp [hkj], h1 hkj⟩
    · have hb : (k == j) = false := by simpa using hkj
      rw [hb]
      obtain ⟨r, h3, h4⟩ := findNow_ok k es m' (i + 1) hr
      exact ⟨r, h3, h2 hkj r h4⟩
theorem keyOk_int {P : Program} {kt : TypeId} {kd : IntKind} (hk : P.underlying kt = some (.int kd)) : KeyOk P kt (Value.int kd) fun _ => True where
  find w k es m _ h := by
    obtain ⟨r, h1, h2⟩ := findNow_ok k es m 0 h
    refine ⟨r, ?_, h2⟩
    unfold Instr.findKey
    rw [run_bind _ _ (run_underlying hk), h1]; rfl
  check w k b _ := by
    show (Instr.checkKey b (9999 + 1) kt _).run P w = _
    unfold Instr.checkKey
    rw [run_bind _ _ (run_underlying hk)]
    rfl
  same k _ := by simp [Instr.sameBits]
/-! ### Arrays of bytes -/
/-- An array type of n bytes. -/
structure BytesArr (P : Program) (t e : TypeId) (n : Nat) : Prop where
  und : P.underlying t = some (.array n e)
  elem : P.underlying e = some (.int .u8)
  cells : cellsAgg P e = some (1, false)
  one : P.cellsOf e = 1
  guard : P.eqGuardType P.depth t = false
def digV (l : List UInt8) : Value := .agg (bytesV l).toArray
section
variable {P : Program} {w : World}
theorem run_eqItems_bytes {t e : TypeId} {n : Nat} (h : BytesArr P t e n) (d : Nat) (a b : List UInt8) (ha : a.length = n) (hb : b.length = n) : ∀ (m i : Nat), i + m = n →
    (Op.eqItems (d + 1) e 1 (bytesV a).toArray (bytesV b).toArray (List.range' i m)).run P w = .ok (a.drop i == b.drop i) w
  | 0, i, hi => by
    have e1 : a.drop i = [] := List.drop_eq_nil_of_le (by omega)
    have e2 : b.drop i = [] := List.drop_eq_nil_of_le (by omega)
    rw [e1, e2]; rfl
  | m + 1, i, hi => by
    have hia : i < a.length := by omega
    have hib : i < b.length := by omega
    have pa : (part e (bytesV a).toArray (i * 1)).run P w = .ok (.int .u8 (a[i].toNat : Int)) w := run_part h.cells _ _ (by simp [bytesV, hia])
    have pb : (part e (bytesV b).toArray (i * 1)).run P w = .ok (.int .u8 (b[i].toNat : Int)) w := run_part h.cells _ _ (by simp [bytesV, hib])
    have pe := run_equalIn_int (P := P) w d e .u8 .u8 (a[i].toNat : Int) (b[i].toNat : Int) h.elem
    rw [List.range'_succ]
    simp only [Op.eqItems]
    rw [run_bind _ _ pa, run_bind _ _ pb, run_bind _ _ pe]
    have e1 : a.drop i = a[i] :: a.drop (i + 1) := List.drop_eq_getElem_cons hia
    have e2 : b.drop i = b[i] :: b.drop (i + 1) := List.drop_eq_getElem_cons hib
    have eq : ((a[i].toNat : Int) == (b[i].toNat : Int)) = (a[i] == b[i]) := by
      rw [Bool.eq_iff_iff]; simp only [beq_iff_eq]
      constructor
      · intro h; exact UInt8.toNat_inj.1 (by omega)
      · intro h; rw [h]
    rw [eq, e1, e2]
    cases hab : (a[i] == b[i]) with
    | false =>
      have : (a[i] :: a.drop (i + 1) == b[i] :: b.drop (i + 1)) = false := by rw [List.cons_beq_cons, hab, Bool.false_and]
      rw [this]; rfl
    | true =>
      have : (a[i] :: a.drop (i + 1) == b[i] :: b.drop (i + 1)) = (a.drop (i + 1) == b.drop (i + 1)) := by rw [List.cons_beq_cons, hab, Bool.true_and]
      rw [this]
      exact run_eqItems_bytes h d a b ha hb m (i + 1) (by omega)
theorem run_equal_bytes {t e : TypeId} {n : Nat} (h : BytesArr P t e n) (a b : List UInt8) (ha : a.length = n) (hb : b.length = n) : (Op.equal t (digV a) (digV b)).run P w = .ok (a == b) w := by
  obtain ⟨i, _, hi, _, _, _⟩ := cellsAgg_inv h.cells
  show (Op.equalIn (9999 + 1) t _ _).run P w = _
  unfold digV
  rw [run_equalIn_array w 9999 _ _ h.und hi, h.one, List.range_eq_range']
  have := run_eqItems_bytes (w := w) h 9998 a b ha hb n 0 (by omega)
  simpa using this
variable {env : Env} {dst : Option Tmp} {ty : TypeId} {pos : String} {after : Array Edge} {guard : Option (Nat × Bool)}
theorem OpV.eqBytes {t e u : TypeId} {n : Nat} (h : BytesArr P t e n) {x y : Operand} {a b : List UInt8} (hx : evO env x = some (digV a)) (hy : evO env y = some (digV b)) (ha : a.length = n) (hb : b.length = n) :
    OpV P env w ⟨dst, .binOp .eql t x y u, ty, pos, after, guard⟩ (.bool (a == b)) := .of_run fun ρ hρ => by
  refine ⟨_, by simp only [execOp, hρ _ _ hx, hρ _ _ hy]; rfl, ?_⟩
  have h1 := run_eqGuard_agg (P := P) w .eql t x y (bytesV a).toArray (bytesV b).toArray h.guard
  have h2 := run_eql_struct (P := P) w t (bytesV a).toArray (bytesV b).toArray
  have h3 := run_equal_bytes (w := w) h a b ha hb
  unfold digV at h3 ⊢
  rw [run_bind _ _ h1, h2]
  have h4 : (Op.equalIn 10000 t (.agg (bytesV a).toArray) (.agg (bytesV b).toArray)).run P w = .ok (a == b) w := h3
  rw [h4]; rfl
theorem OpV.neBytes {t e u : TypeId} {n : Nat} (h : BytesArr P t e n) {x y : Operand} {a b : List UInt8} (hx : evO env x = some (digV a)) (hy : evO env y = some (digV b)) (ha : a.length = n) (hb : b.length = n) :
    OpV P env w ⟨dst, .binOp .neq t x y u, ty, pos, after, guard⟩ (.bool (!(a == b))) := .of_run fun ρ hρ => by
  refine ⟨_, by simp only [execOp, hρ _ _ hx, hρ _ _ hy]; rfl, ?_⟩
  have h1 := run_eqGuard_agg (P := P) w .neq t x y (bytesV a).toArray (bytesV b).toArray h.guard
  have h2 := run_neq_struct (P := P) w t (bytesV a).toArray (bytesV b).toArray
  have h3 := run_equal_bytes (w := w) h a b ha hb
  unfold digV at h3 ⊢
  rw [run_bind _ _ h1, h2]
  have h4 : (Op.equalIn 10000 t (.agg (bytesV a).toArray) (.agg (bytesV b).toArray)).run P w = .ok (a == b) w := h3
  rw [h4]; rfl
end
/-! ### Operations -/
section
variable {α : Type} [DecidableEq α] {kv : α → Value} {good : α → Prop}
variable {P : Program} {w : World} {env : Env} {dst : Option Tmp} {ty : TypeId} {pos : String} {after : Array Edge} {guard : Option (Nat × Bool)}
theorem OpE.makeMap (kv : α → Value) (good : α → Prop) {t : TypeId} : OpE P env w ⟨dst, .makeMap t none, ty, pos, after, guard⟩ (fun v w' => ∃ r, v = .map (some r) ∧ Added w w' r (.map #[] 0) ∧ MapK kv good w' r []) fun _ _ => False :=
  .of_run (w' := _) (v := _) ⟨w.heap.size, rfl, added_push w _, ⟨#[], 0, (added_push w _).at_, ⟨rfl, fun _ h => by simp at h⟩, ⟨by simp, fun _ h => by simp at h⟩⟩⟩ fun ρ hρ => ⟨_, rfl, rfl⟩
theorem run_lookup_ok {t kt et : TypeId} {r : Nat} {k : α} {m : List (α × Value)} {z : Value} (ht : P.underlying t = some (.map kt et)) (hk : KeyOk P kt kv good) (hz : (P.info? et).bind (·.zero) = some z)
    (hg : good k) (hm : MapK kv good w r m) (ok : Bool) : (Instr.lookup t (.map (some r)) (kv k) ok).run P w = .ok (if ok then .tuple #[(getM k m).getD z, .bool (getM k m).isSome] else (getM k m).getD z) w := by
  obtain ⟨es, c, h1, h2, -⟩ := hm
  obtain ⟨i, hi, hiz⟩ := Option.bind_eq_some_iff.1 hz
  have hzr : (zeroValue et).run P w = .ok z w := by unfold zeroValue; rw [run_bind _ _ (run_typeInfo hi), hiz]; rfl
  obtain ⟨q, hf, h4⟩ := hk.find w k es.toList m hg h2
  unfold Instr.lookup
  rw [run_bind _ _ (run_underlying ht)]
  simp only
  rw [run_bind _ _ (run_getObj h1 (by intros; simp))]
  simp only
  rw [run_bind (v := es) (w' := w) _ _ rfl, run_bind _ _ (hk.check w k _ hg)]
  match q, h4, hf with
  | none, h4, hf =>
    rw [run_bind _ _ hf]
    simp only
    rw [run_bind _ _ hzr, h4.1]; rfl
  | some (j, u), h4, hf =>
    rw [run_bind _ _ hf, h4.1]; rfl
theorem OpV.lookup {t kt et : TypeId} {x y : Operand} {r : Nat} {k : α} {m : List (α × Value)} {z : Value} (ht : P.underlying t = some (.map kt et)) (hk : KeyOk P kt kv good) (hz : (P.info? et).bind (·.zero) = some z)
    (hx : evO env x = some (.map (some r))) (hy : evO env y = some (kv k)) (hg : good k) (hm : MapK kv good w r m) :
    OpV P env w ⟨dst, .lookup t x y false, ty, pos, after, guard⟩ ((getM k m).getD z) := .of_run fun ρ hρ =>
  ⟨_, by simp only [execOp, hρ _ _ hx, hρ _ _ hy] <;> rfl, run_lookup_ok ht hk hz hg hm false⟩
theorem OpV.lookup2 {t kt et : TypeId} {x y : Operand} {r : Nat} {k : α} {m : List (α × Value)} {z : Value} (ht : P.underlying t = some (.map kt et)) (hk : KeyOk P kt kv good) (hz : (P.info? et).bind (·.zero) = some z)
    (hx : evO env x = some (.map (some r))) (hy : evO env y = some (kv k)) (hg : good k) (hm : MapK kv good w r m) :
    OpV P env w ⟨dst, .lookup t x y true, ty, pos, after, guard⟩ (.tuple #[(getM k m).getD z, .bool (getM k m).isSome]) := .of_run fun ρ hρ =>
  ⟨_, by simp only [execOp, hρ _ _ hx, hρ _ _ hy] <;> rfl, run_lookup_ok ht hk hz hg hm true⟩
theorem OpE.mapSet {t kt et : TypeId} {x y zz : Operand} {r : Nat} {k : α} {v : Value} {m : List (α × Value)} (ht : P.underlying t = some (.map kt et)) (hk : KeyOk P kt kv good)
    (hx : evO env x = some (.map (some r))) (hy : evO env y = some (kv k)) (hv : evO env zz = some v) (hg : good k) (hm : MapK kv good w r m) :
    OpE P env w ⟨dst, .mapUpdate t x y zz, ty, pos, after, guard⟩ (fun _ w' => MapK kv good w' r (setM k v m) ∧ ExtB (· = r) w w' ∧ w'.heap.size = w.heap.size) fun _ _ => False := by
  obtain ⟨es, c, h1, h2, hbo⟩ := hm
  obtain ⟨q, hf, h4⟩ := hk.find w k es.toList m hg h2
  have hlt := lt_of_get h1
  obtain ⟨es', c', hes, hbo', hrun⟩ : ∃ es' c', entsOk kv good es'.toList (setM k v m) ∧ bornOk es'.toList c' ∧ (Instr.mapUpdate t (.map (some r)) (kv k) v).run P w = .ok () (World.setObj w r (.map es' c')) := by
    unfold Instr.mapUpdate
    match q, h4, hf with
    | none, h4, hf =>
      refine ⟨es.push { key := kv k, val := v, born := c }, c + 1, ?_, ?_, ?_⟩
      rotate_left
      · obtain ⟨b1, b2⟩ := hbo
        refine ⟨?_, fun e he => ?_⟩
        · rw [Array.toList_push, List.map_append, List.map_singleton, List.nodup_append]
          refine ⟨b1, by simp, fun a ha b hb => ?_⟩
          simp only [List.mem_singleton] at hb; subst hb
          obtain ⟨e, he, rfl⟩ := List.mem_map.1 ha
          have := b2 e he
          exact Nat.ne_of_lt this
        · rw [Array.toList_push] at he
          rcases List.mem_append.1 he with he | he
          · have := b2 e he; omega
          · simp only [List.mem_singleton] at he; subst he; exact Nat.lt_succ_self c
      rotate_left
      · rw [h4.2]
        refine ⟨by have := h2.1; simp [this], fun x hx => ?_⟩
        rcases List.mem_append.1 hx with hx | hx
        · exact h2.2 x hx
        · simp at hx; subst hx; exact hg
      · rw [run_bind _ _ (run_underlying ht)]
        simp only
        rw [run_bind _ _ (run_getObj h1 (by intros; simp))]
        simp only
        rw [run_bind _ _ (hk.check w k _ hg), run_bind _ _ hf]
        exact run_setObj h1 (by intros; simp)
    | some (j, u), h4, hf =>
      simp only [Found, Nat.sub_zero] at h4
      obtain ⟨-, -, ⟨e, he, hek⟩, h7⟩ := h4
      refine ⟨es.modify j fun e => { e with key := kv k, val := v }, c, ?_, ?_, ?_⟩
      · rw [Array.toList_modify]; exact h7 v
      · obtain ⟨b1, b2⟩ := hbo
        have hmp : (es.toList.modify j fun e => { e with key := kv k, val := v }).map (·.born) = es.toList.map (·.born) := by
          apply List.ext_getElem?
          intro i
          simp only [List.getElem?_map, List.getElem?_modify]
          cases es.toList[i]? with
          | none => rfl
          | some e => by_cases h : j = i <;> simp [h]
        rw [Array.toList_modify]
        refine ⟨by rw [hmp]; exact b1, fun e he => ?_⟩
        have : e.born ∈ (es.toList.modify j fun e => { e with key := kv k, val := v }).map (·.born) := List.mem_map.2 ⟨e, he, rfl⟩
        rw [hmp] at this
        obtain ⟨e', he', hb⟩ := List.mem_map.1 this
        rw [← hb]; exact b2 e' he'
      · rw [run_bind _ _ (run_underlying ht)]
        simp only
        rw [run_bind _ _ (run_getObj h1 (by intros; simp))]
        simp only
        rw [run_bind _ _ (hk.check w k _ hg), run_bind _ _ hf]
        simp only
        have hgk : ((es[j]?).map (·.key)).getD (kv k) = kv k := by
          rw [Array.getElem?_toList] at he
          rw [he]; simp [hek]
        rw [hgk]
        have hks : (Instr.keyThatStays (kv k) (kv k)).run P w = .ok (kv k) w := by
          unfold Instr.keyThatStays
          rw [hk.same k hg]; rfl
        rw [run_bind _ _ hks]
        exact run_setObj h1 (by intros; simp)
  have ht' := turned_set w hlt (.map es' c')
  intro ρ hρ
  have he : execOp ρ ⟨dst, .mapUpdate t x y zz, ty, pos, after, guard⟩ = (do Instr.mapUpdate t (.map (some r)) (kv k) v; pure .skip : Sem Next) := by
    simp only [execOp, hρ _ _ hx, hρ _ _ hy, hρ _ _ hv]
  exact ExecE.of_skip (w' := World.setObj w r (.map es' c')) (by rw [he, run_bind _ _ hrun]; rfl) ⟨⟨es', c', ht'.at_, hes, hbo'⟩, ht'.ext, ht'.size⟩
end
end Go.Rn
end
section
/- What comes in, read as data: the shape of its cells. Nothing here knows a program. -/
namespace Go.Rn
open Go.RowKit Go.ChangeShapes Go.WideShapes

/-- What cells of a type hold that can be read. -/
def Shp (P : Program) (w : World) : Nat → TypeId → List Value → Prop
  | 0, _, _ => False
  | f + 1, t, cs => match P.underlying t with
    | some .bool => ∃ b, cs = [.bool b]
    | some (.int k) => ∃ n, cs = [.int k n] ∧ (Lit.int k n).wf = true
    | some .string => ∃ s : ByteArray, cs = [.string s] ∧ s.size ≤ maxLen
    | some (.slice e) => 0 < P.cellsOf e → ∃ v n, ∃ rows : List (List Value), cs = [v] ∧ n ≤ maxLen ∧ rows.length = n ∧ (∀ r ∈ rows, r.length = P.cellsOf e ∧ Shp P w f e r) ∧ IsSl w (P.cellsOf e) v n rows.flatten
    | some (.struct fs) => cs.length = P.cellsOf t ∧ ∀ fl ∈ fs.toList, Shp P w f fl.type ((cs.drop fl.offset).take (P.cellsOf fl.type))
    | some (.array n e) => cs.length = P.cellsOf t ∧ ∀ i, i < n → Shp P w f e ((cs.drop (i * P.cellsOf e)).take (P.cellsOf e))
    | _ => True

theorem mapM_mem {α β : Type} {g : α → Option β} : ∀ {l : List α} {ys : List β}, l.mapM g = some ys → ∀ x ∈ l, ∃ y, g x = some y
  | [], _, _, x, hx => by simp at hx
  | a :: r, ys, h, x, hx => by
    rw [List.mapM_cons] at h
    cases ha : g a with
    | none => simp [ha] at h
    | some y =>
      simp only [ha, Option.bind_eq_bind, Option.bind_some] at h
      cases hr : r.mapM g with
      | none => simp [hr] at h
      | some zs =>
        rcases List.mem_cons.1 hx with rfl | hx
        · exact ⟨y, ha⟩
        · exact mapM_mem hr x hx

theorem flatten_get {sz : Nat} : ∀ (rows : List (List Value)), (∀ r ∈ rows, r.length = sz) → ∀ i j, j < sz → (rows.flatten)[i * sz + j]? = (rows[i]?).bind (·[j]?)
  | [], _, i, j, _ => by simp
  | r :: rest, h, 0, j, hj => by
    have hr := h r (by simp)
    rw [List.flatten_cons, Nat.zero_mul, Nat.zero_add, List.getElem?_append_left (by omega)]; rfl
  | r :: rest, h, i + 1, j, hj => by
    have hr := h r (by simp)
    rw [List.flatten_cons, List.getElem?_append_right (by rw [hr, Nat.add_mul]; omega), hr, show (i + 1) * sz + j - sz = i * sz + j by rw [Nat.add_mul]; omega,
      flatten_get rest (fun x hx => h x (by simp [hx])) i j hj]
    simp
theorem flatten_length {sz : Nat} : ∀ (rows : List (List Value)), (∀ r ∈ rows, r.length = sz) → rows.flatten.length = rows.length * sz
  | [], _ => by simp
  | r :: rest, h => by
    rw [List.flatten_cons, List.length_append, h r (by simp), flatten_length rest (fun x hx => h x (by simp [hx])), List.length_cons, Nat.add_mul]; omega

section
variable {H : Type} {enc : TypeId × Value → H} {P : Program} {w : World} {held : Bool}

theorem shp_of_trod : ∀ (fuel : Nat) (t : TypeId) (cs : List Value) (x : DataW H × List MemPlace), DataW.trod enc P w 0 (fun _ => true) held fuel t cs = some x → Shp P w fuel t cs
  | 0, t, cs, x, h => by simp [DataW.trod] at h
  | fuel + 1, t, cs, x, h => by
    unfold Shp
    split
    · rename_i ht; obtain ⟨b, rfl, -⟩ := DataW.trod_bool ht h; exact ⟨b, rfl⟩
    · rename_i k ht; obtain ⟨n, rfl, -, hw⟩ := DataW.trod_int ht h; exact ⟨n, rfl, hw⟩
    · rename_i ht; obtain ⟨s, rfl, -, hs⟩ := DataW.trod_string ht h; exact ⟨s, rfl, hs⟩
    · rename_i e ht
      intro hpos
      rcases DataW.trod_slice ht h with ⟨rfl, -⟩ | ⟨a, len, cap, elems, rest, n, hfu, rfl, -, -, hlc, hcm, hlen, hel, hsp, -⟩
      · exact ⟨_, 0, [], rfl, by simp [maxLen], rfl, by simp, by simpa using IsSl.nil⟩
      · obtain rfl : fuel = n := by omega
        obtain ⟨hrl, hre⟩ := hsp rfl
        have all : ∀ i, i < cap → ∃ cs', w.cells? 0 (a.add (i * P.cellsOf e)) (P.cellsOf e) = some cs' ∧ ∃ y, DataW.trod enc P w 0 (fun _ => true) held fuel e cs' = some y := by
          intro i hi
          by_cases hil : i < len
          · have h1 := hel i hil
            rw [List.getElem?_eq_getElem (by omega)] at h1
            obtain ⟨cs', h1, h2⟩ := Option.bind_eq_some_iff.1 h1
            exact ⟨cs', h1, _, h2⟩
          · have h1 := hre (i - len) (by omega)
            rw [show len + (i - len) = i by omega, List.getElem?_eq_getElem (by omega)] at h1
            obtain ⟨cs', h1, h2⟩ := Option.bind_eq_some_iff.1 h1
            exact ⟨cs', h1, _, h2⟩
        obtain ⟨F, hF⟩ := Deep.choose_lt (α := List Value) (p := fun i cs' => w.cells? 0 (a.add (i * P.cellsOf e)) (P.cellsOf e) = some cs' ∧ ∃ y, DataW.trod enc P w 0 (fun _ => true) held fuel e cs' = some y) all
        have hlenF : ∀ i, i < cap → (F i).length = P.cellsOf e := fun i hi => (World.cells?_some (hF i hi).1).2.1
        refine ⟨_, len, (List.range len).map F, rfl, by omega, by simp, ?_, ?_⟩
        · intro r hr
          obtain ⟨i, hi, rfl⟩ := List.mem_map.1 hr
          have hi' : i < cap := by have := List.mem_range.1 hi; omega
          obtain ⟨y, hy⟩ := (hF i hi').2
          exact ⟨hlenF i hi', shp_of_trod fuel e _ y hy⟩
        · by_cases h0 : cap = 0
          · subst h0
            obtain rfl : len = 0 := by omega
            simpa using IsSl.nil
          · have hsp : a.spot = none := by
              have h1 := (World.cells?_some (hF 0 (by omega)).1).2.2 0 hpos
              rw [Nat.zero_mul] at h1
              have e0 : (a.add 0).add 0 = a := by simp [Addr.add]
              rw [e0] at h1
              have hl := hlenF 0 (by omega)
              rw [List.getElem?_eq_getElem (by omega)] at h1
              unfold World.cell? at h1
              split at h1
              · split at h1
                · simp at h1
                · rename_i hs; simpa using hs
              · simp at h1
            obtain ⟨ab, ao, asp⟩ := a
            simp only at hsp; subst hsp
            have hrl : ∀ r ∈ (List.range len).map F, r.length = P.cellsOf e := by
              intro r hr
              obtain ⟨i, hi, rfl⟩ := List.mem_map.1 hr
              exact hlenF i (by have := List.mem_range.1 hi; omega)
            refine .row ?_ (by rw [flatten_length _ hrl]; simp) hlc
            intro q v hv
            have hq : q < len * P.cellsOf e := by
              rcases Nat.lt_or_ge q (len * P.cellsOf e) with h | h
              · exact h
              · rw [List.getElem?_eq_none (by rw [flatten_length _ hrl]; simpa using h)] at hv; simp at hv
            have hqi : q / P.cellsOf e < len := Nat.div_lt_of_lt_mul (by rw [Nat.mul_comm]; exact hq)
            have hqj : q % P.cellsOf e < P.cellsOf e := Nat.mod_lt _ hpos
            have hqe : q / P.cellsOf e * P.cellsOf e + q % P.cellsOf e = q := by rw [Nat.mul_comm]; exact Nat.div_add_mod q _
            rw [← hqe, flatten_get _ hrl _ _ hqj] at hv
            simp only [List.getElem?_map, List.getElem?_range hqi, Option.map_some, Option.bind_some] at hv
            have h1 := (World.cells?_some (hF _ (by omega : q / P.cellsOf e < cap)).1).2.2 _ hqj
            rw [hv] at h1
            rw [add_none, add_none] at h1
            rw [← hqe, ← Nat.add_assoc]; exact h1
    · rename_i fs ht
      obtain ⟨xs, n, hfu, -, hl, hxl, hx⟩ := DataW.trod_struct ht h
      obtain rfl : fuel = n := by omega
      refine ⟨hl, fun fl hfl => ?_⟩
      obtain ⟨i, hi, rfl⟩ := List.getElem_of_mem hfl
      have h1 := hx i (fs.toList[i]) (by simp)
      rw [List.getElem?_eq_getElem (by rw [hxl]; simpa using hi)] at h1
      exact shp_of_trod fuel _ _ _ h1
    · rename_i n e ht
      unfold DataW.trod at h
      rw [ht] at h
      split at h <;> simp_all
      obtain ⟨hl, xs, hxs, -⟩ := h
      intro i hi
      obtain ⟨y, hy⟩ := mapM_mem hxs i (by simpa using hi)
      exact shp_of_trod fuel _ _ y hy
    · trivial

theorem shp_of_Trod {t : TypeId} {v : Value} {d : DataW H} {ps : List MemPlace} (h : DataW.Trod enc P w 0 (fun _ => true) held t v d ps) : ∃ fuel, Shp P w fuel t v.cells.toList := by
  obtain ⟨fuel, hf⟩ := h
  exact ⟨fuel, shp_of_trod fuel t _ _ hf⟩
end

/-! ### By kind -/
section
variable {P : Program} {w : World} {fuel : Nat} {t : TypeId} {cs : List Value}
theorem Shp.int {k : IntKind} (h : Shp P w fuel t cs) (ht : P.underlying t = some (.int k)) : ∃ n, cs = [.int k n] ∧ (Lit.int k n).wf = true := by
  cases fuel with
  | zero => exact h.elim
  | succ f => unfold Shp at h; rw [ht] at h; exact h
theorem Shp.bool (h : Shp P w fuel t cs) (ht : P.underlying t = some .bool) : ∃ b, cs = [.bool b] := by
  cases fuel with
  | zero => exact h.elim
  | succ f => unfold Shp at h; rw [ht] at h; exact h
theorem Shp.str (h : Shp P w fuel t cs) (ht : P.underlying t = some .string) : ∃ s : ByteArray, cs = [.string s] ∧ s.size ≤ maxLen := by
  cases fuel with
  | zero => exact h.elim
  | succ f => unfold Shp at h; rw [ht] at h; exact h
theorem Shp.slice {e : TypeId} {sz : Nat} (h : Shp P w fuel t cs) (ht : P.underlying t = some (.slice e)) (hs : P.cellsOf e = sz) (hp : 0 < sz) :
    ∃ f v n, ∃ rows : List (List Value), cs = [v] ∧ n ≤ maxLen ∧ rows.length = n ∧ (∀ r ∈ rows, r.length = sz ∧ Shp P w f e r) ∧ IsSl w sz v n rows.flatten := by
  cases fuel with
  | zero => exact h.elim
  | succ f => unfold Shp at h; rw [ht] at h; subst hs; exact ⟨f, h hp⟩
theorem Shp.struct {fs : Array Field} (h : Shp P w fuel t cs) (ht : P.underlying t = some (.struct fs)) :
    cs.length = P.cellsOf t ∧ ∃ f, ∀ fl ∈ fs.toList, Shp P w f fl.type ((cs.drop fl.offset).take (P.cellsOf fl.type)) := by
  cases fuel with
  | zero => exact h.elim
  | succ f => unfold Shp at h; rw [ht] at h; exact ⟨h.1, f, h.2⟩
theorem Shp.array {n : Nat} {e : TypeId} (h : Shp P w fuel t cs) (ht : P.underlying t = some (.array n e)) :
    cs.length = P.cellsOf t ∧ ∃ f, ∀ i, i < n → Shp P w f e ((cs.drop (i * P.cellsOf e)).take (P.cellsOf e)) := by
  cases fuel with
  | zero => exact h.elim
  | succ f => unfold Shp at h; rw [ht] at h; exact ⟨h.1, f, h.2⟩

theorem u8_cells {n : Int} (h : (Lit.int .u8 n).wf = true) : ∃ b : UInt8, n = (b.toNat : Int) := by
  have e1 : IntKind.u8.min = 0 := rfl
  have e2 : IntKind.u8.max = 255 := rfl
  simp only [Lit.wf, decide_eq_true_eq, Bool.and_eq_true, e1, e2] at h
  refine ⟨UInt8.ofNat n.toNat, ?_⟩
  rw [UInt8.toNat_ofNat']; omega
theorem bytes_of_rows {e : TypeId} {f : Nat} (he : P.underlying e = some (.int .u8)) : ∀ (rows : List (List Value)), (∀ r ∈ rows, r.length = 1 ∧ Shp P w f e r) → ∃ l : List UInt8, rows.flatten = bytesV l ∧ l.length = rows.length
  | [], _ => ⟨[], rfl, rfl⟩
  | r :: rest, h => by
    obtain ⟨l, h1, h2⟩ := bytes_of_rows he rest fun x hx => h x (by simp [hx])
    obtain ⟨n, rfl, hw⟩ := (h r (by simp)).2.int he
    obtain ⟨b, rfl⟩ := u8_cells hw
    exact ⟨b :: l, by simp [h1, bytesV], by simp [h2]⟩
theorem Shp.bytes {e : TypeId} (h : Shp P w fuel t cs) (ht : P.underlying t = some (.slice e)) (he : P.underlying e = some (.int .u8)) (hs : P.cellsOf e = 1) :
    ∃ v, ∃ l : List UInt8, cs = [v] ∧ l.length ≤ maxLen ∧ IsSl w 1 v l.length (bytesV l) := by
  obtain ⟨f, v, n, rows, rfl, hn, hl, hr, hsl⟩ := h.slice ht hs (by decide)
  obtain ⟨l, h1, h2⟩ := bytes_of_rows he rows hr
  rw [h1] at hsl
  exact ⟨v, l, rfl, by omega, by rw [h2, hl]; exact hsl⟩
end
end Go.Rn
end
section
/- Structs whose fields are numbers, bools and texts. -/
namespace Go.Rn
open Go.RowKit Go.ChangeShapes Go.WideShapes
inductive FK where
  | int (k : IntKind)
  | bool
  | str
def FK.desc : FK → TypeDesc
  | .int k => .int k
  | .bool => .bool
  | .str => .string
def FK.ok : FK → Value → Prop
  | .int k, v => ∃ n, v = .int k n
  | .bool, v => ∃ b, v = .bool b
  | .str, v => ∃ s, v = .string s
def FK.wf : FK → Value → Prop
  | .int k, v => ∃ n, v = .int k n ∧ (Lit.int k n).wf = true
  | .bool, v => ∃ b, v = .bool b
  | .str, v => ∃ s : ByteArray, v = .string s ∧ s.size ≤ maxLen
def veq : Value → Value → Bool
  | .int _ a, .int _ b => a == b
  | .bool a, .bool b => a == b
  | .string a, .string b => a.toList == b.toList
  | _, _ => false
def eqAll : List Value → List Value → Bool
  | [], [] => true
  | a :: r, b :: s => veq a b && eqAll r s
  | _, _ => false
/-- A struct type with such fields, one cell each. -/
structure Flat (P : Program) (t : TypeId) (ts : List (TypeId × FK)) : Prop where
  und : P.underlying t = some (.struct (P.fieldsOf t))
  fields : (P.fieldsOf t).toList.map (fun f => ((f.name == "_"), f.type, f.offset)) = ts.zipIdx.map fun x => (false, x.1.1, x.2)
  held : P.stoodInHeld t = false
  guard : P.eqGuardType P.depth t = false
  cells : P.cellsOf t = ts.length
  kinds : ∀ x ∈ ts, P.underlying x.1 = some x.2.desc ∧ cellsAgg P x.1 = some (1, false) ∧ P.cellsOf x.1 = 1
variable {P : Program} {w : World}
theorem run_eqFlat {d : Nat} (xs ys : List Value) : ∀ (fs : List Field) (ts : List (TypeId × FK)) (k : Nat), fs.map (fun f => ((f.name == "_"), f.type, f.offset)) = (ts.zipIdx k).map (fun x => (false, x.1.1, x.2)) →
    (∀ x ∈ ts, P.underlying x.1 = some x.2.desc ∧ cellsAgg P x.1 = some (1, false) ∧ P.cellsOf x.1 = 1) → xs.length = k + ts.length → ys.length = k + ts.length →
    (∀ (i : Nat) (x : TypeId × FK), ts[i]? = some x → ∃ u v, xs[k + i]? = some u ∧ ys[k + i]? = some v ∧ x.2.ok u ∧ x.2.ok v) → (Op.eqFields (d + 1) xs.toArray ys.toArray fs).run P w = .ok (eqAll (xs.drop k) (ys.drop k)) w
  | [], [], k, _, _, hx, hy, _ => by
    rw [List.drop_eq_nil_of_le (by simp at hx; omega), List.drop_eq_nil_of_le (by simp at hy; omega)]; rfl
  | [], t :: ts, k, h, _, _, _, _ => by simp at h
  | f :: fs, [], k, h, _, _, _, _ => by simp at h
  | f :: fs, x :: ts, k, h, hk, hx, hy, hv => by
    simp only [List.map_cons, List.zipIdx_cons, List.cons.injEq, Prod.mk.injEq] at h
    obtain ⟨⟨n0, t0, o0⟩, hr⟩ := h
    have n0' : f.name ≠ "_" := by simpa using n0
    obtain ⟨u, v, hu, hv', ku, kv⟩ := hv 0 x rfl
    obtain ⟨hd, hc, -⟩ := hk x List.mem_cons_self
    rw [Nat.add_zero] at hu hv'
    have pu : (part f.type xs.toArray f.offset).run P w = .ok u w := by rw [t0, o0]; exact run_part hc _ _ (by simpa using hu)
    have pv : (part f.type ys.toArray f.offset).run P w = .ok v w := by rw [t0, o0]; exact run_part hc _ _ (by simpa using hv')
    have pe : (Op.equalIn (d + 1) f.type u v).run P w = .ok (veq u v) w := by
      rw [t0]
      obtain ⟨ti, kd⟩ := x
      cases kd with
      | int kk => obtain ⟨a, rfl⟩ := ku; obtain ⟨b, rfl⟩ := kv; exact run_equalIn_int w d ti kk kk a b hd
      | bool => obtain ⟨a, rfl⟩ := ku; obtain ⟨b, rfl⟩ := kv; exact run_equalIn_bool w d ti a b hd
      | str => obtain ⟨a, rfl⟩ := ku; obtain ⟨b, rfl⟩ := kv; exact run_equalIn_string w d ti a b hd
    have hkx : k < xs.length := by rw [hx]; simp
    have hky : k < ys.length := by rw [hy]; simp
    have e1 : xs.drop k = u :: xs.drop (k + 1) := by rw [List.drop_eq_getElem_cons hkx]; rw [List.getElem?_eq_getElem hkx] at hu; injection hu with hu; rw [hu]
    have e2 : ys.drop k = v :: ys.drop (k + 1) := by rw [List.drop_eq_getElem_cons hky]; rw [List.getElem?_eq_getElem hky] at hv'; injection hv' with hv'; rw [hv']
    have ih := run_eqFlat (d := d) xs ys fs ts (k + 1) hr (fun y hy => hk y (List.mem_cons_of_mem _ hy)) (by rw [hx, List.length_cons]; omega) (by rw [hy, List.length_cons]; omega)
      (fun i y hi => by obtain ⟨u, v, h1, h2, h3⟩ := hv (i + 1) y hi; exact ⟨u, v, by rw [← h1]; congr 1; omega, by rw [← h2]; congr 1; omega, h3⟩)
    simp only [Op.eqFields, n0', ne_eq, not_false_eq_true, if_true]
    rw [run_bind _ _ pu, run_bind _ _ pv, run_bind _ _ pe, e1, e2]
    simp only [eqAll]
    cases hb : veq u v with
    | false => rfl
    | true => simp only [Bool.not_true, Bool.false_eq_true, if_false, Bool.true_and]; exact ih
/-- The cells fit. -/
def fits (ts : List (TypeId × FK)) (cs : List Value) : Prop := cs.length = ts.length ∧ ∀ (i : Nat) (x : TypeId × FK), ts[i]? = some x → ∃ u, cs[i]? = some u ∧ x.2.ok u
theorem Flat.run {t : TypeId} {ts : List (TypeId × FK)} (h : Flat P t ts) {xs ys : List Value} (hx : fits ts xs) (hy : fits ts ys) :
    (Op.equalIn 10000 t (.agg xs.toArray) (.agg ys.toArray)).run P w = .ok (eqAll xs ys) w := by
  rw [show (10000 : Nat) = 9999 + 1 from rfl, run_equalIn_struct w 9999 _ _ _ h.und h.held]
  have := run_eqFlat (P := P) (w := w) (d := 9998) xs ys (P.fieldsOf t).toList ts 0 h.fields h.kinds (by rw [hx.1]; omega) (by rw [hy.1]; omega) (fun i x hi => by
    obtain ⟨u, h1, h2⟩ := hx.2 i x hi
    obtain ⟨v, h3, h4⟩ := hy.2 i x hi
    exact ⟨u, v, by rw [Nat.zero_add]; exact h1, by rw [Nat.zero_add]; exact h3, h2, h4⟩)
  simpa using this
variable {env : Env} {dst : Option Tmp} {ty : TypeId} {pos : String} {after : Array Edge} {guard : Option (Nat × Bool)}
theorem OpV.eqFlat {t u : TypeId} {ts : List (TypeId × FK)} (h : Flat P t ts) {x y : Operand} {xs ys : List Value} (hx : evO env x = some (.agg xs.toArray)) (hy : evO env y = some (.agg ys.toArray)) (h1 : fits ts xs) (h2 : fits ts ys) :
    OpV P env w ⟨dst, .binOp .eql t x y u, ty, pos, after, guard⟩ (.bool (eqAll xs ys)) := .of_run fun ρ hρ => by
  refine ⟨_, by simp only [execOp, hρ _ _ hx, hρ _ _ hy]; rfl, ?_⟩
  rw [run_bind _ _ (run_eqGuard_agg w .eql t x y _ _ h.guard), run_eql_struct, h.run h1 h2]; rfl
theorem OpV.neFlat {t u : TypeId} {ts : List (TypeId × FK)} (h : Flat P t ts) {x y : Operand} {xs ys : List Value} (hx : evO env x = some (.agg xs.toArray)) (hy : evO env y = some (.agg ys.toArray)) (h1 : fits ts xs) (h2 : fits ts ys) :
    OpV P env w ⟨dst, .binOp .neq t x y u, ty, pos, after, guard⟩ (.bool (!(eqAll xs ys))) := .of_run fun ρ hρ => by
  refine ⟨_, by simp only [execOp, hρ _ _ hx, hρ _ _ hy]; rfl, ?_⟩
  rw [run_bind _ _ (run_eqGuard_agg w .neq t x y _ _ h.guard), run_neq_struct, h.run h1 h2]; rfl
/-- What comes in. -/
theorem shp_flat {t : TypeId} {ts : List (TypeId × FK)} (h : Flat P t ts) {fuel : Nat} {cs : List Value} (hs : Shp P w fuel t cs) : cs.length = ts.length ∧ ∀ (i : Nat) (x : TypeId × FK), ts[i]? = some x → ∃ u, cs[i]? = some u ∧ x.2.wf u := by
  obtain ⟨hl, f, hs⟩ := hs.struct h.und
  rw [h.cells] at hl
  refine ⟨hl, fun i x hi => ?_⟩
  have hf := congrArg (·[i]?) h.fields
  simp only [List.getElem?_map, List.getElem?_zipIdx, hi, Option.map_some, Nat.zero_add] at hf
  obtain ⟨fl, hfl, he⟩ := Option.map_eq_some_iff.1 hf
  simp only [Prod.mk.injEq] at he
  obtain ⟨-, t0, o0⟩ := he
  have h0 := hs fl (List.mem_of_getElem? hfl)
  obtain ⟨hd, -, hc⟩ := h.kinds x (List.mem_of_getElem? hi)
  have hilt : i < ts.length := by
    rcases Nat.lt_or_ge i ts.length with h | h
    · exact h
    · rw [List.getElem?_eq_none h] at hi; simp at hi
  have hic : i < cs.length := by omega
  rw [t0, o0, hc, List.drop_eq_getElem_cons hic, List.take_succ_cons, List.take_zero] at h0
  refine ⟨cs[i], List.getElem?_eq_getElem hic, ?_⟩
  obtain ⟨ti, kd⟩ := x
  cases kd with
  | int kk => obtain ⟨n, h1, h2⟩ := h0.int hd; exact ⟨n, (List.cons.inj h1).1, h2⟩
  | bool => obtain ⟨b, h1⟩ := h0.bool hd; exact ⟨b, (List.cons.inj h1).1⟩
  | str => obtain ⟨s, h1, h2⟩ := h0.str hd; exact ⟨s, (List.cons.inj h1).1, h2⟩
end Go.Rn
end
section
/- Steps that part on a test; facts that go on to a later world. -/
namespace Go.Rn
open Go.RowKit
section
variable {P : Program} {c : Ctx} {k : List Item} {Q : Out → Act → World → Prop} {w : World} {n : Nat} {ds : List Deferred} {env : Env}
variable {ops : Array Oper} {d : Tmp} {op : Op} {ty : TypeId} {pos : String} {after : Array Edge} {guard : Option (Nat × Bool)} {rest : List Oper}
theorem RunL.pureC {T : Tab} (hT : T.Ok P) {m : Bool} (hw : wantE ops.toList env ⟨some d, op, ty, pos, after, guard⟩ = some true) (hdst : Nat.blt d n = true) (hv : evalOp T env op = some (.bool m))
    (ht : m = true → RunL P c n ds ops rest k Q ((d, .bool true) :: env) w) (hf : m = false → RunL P c n ds ops rest k Q ((d, .bool false) :: env) w) : RunL P c n ds ops (⟨some d, op, ty, pos, after, guard⟩ :: rest) k Q env w := by
  cases m with
  | true => exact .pure hT hw hdst hv (ht rfl)
  | false => exact .pure hT hw hdst hv (hf rfl)
/-- A value has just come: it is written in its normal form first. -/
def RunLN (P : Program) (c : Ctx) (n : Nat) (ds : List Deferred) (ops : Array Oper) (rest : List Oper) (k : List Item) (Q : Out → Act → World → Prop) (env : Env) (w : World) (d : Tmp) (v : Value) : Prop :=
  RunL P c n ds ops rest k Q ((d, v) :: env) w
theorem RunL.ev {T : Tab} (hT : T.Ok P) {v : Value} (hw : wantE ops.toList env ⟨some d, op, ty, pos, after, guard⟩ = some true) (hdst : Nat.blt d n = true) (hv : evalOp T env op = some v)
    (h : RunLN P c n ds ops rest k Q env w d v) : RunL P c n ds ops (⟨some d, op, ty, pos, after, guard⟩ :: rest) k Q env w := .pure hT hw hdst hv h
theorem RunL.evV {v : Value} (hw : wantE ops.toList env ⟨some d, op, ty, pos, after, guard⟩ = some true) (hdst : Nat.blt d n = true) (hd : isDefer op = false) (hv : OpV P env w ⟨some d, op, ty, pos, after, guard⟩ v)
    (h : RunLN P c n ds ops rest k Q env w d v) : RunL P c n ds ops (⟨some d, op, ty, pos, after, guard⟩ :: rest) k Q env w := .val hw hdst hd hv h
theorem RunLN.boolT {m : Bool} (hm : m = true) (h : RunL P c n ds ops rest k Q ((d, .bool true) :: env) w) : RunLN P c n ds ops rest k Q env w d (.bool m) := by subst hm; exact h
theorem RunLN.boolF {m : Bool} (hm : m = false) (h : RunL P c n ds ops rest k Q ((d, .bool false) :: env) w) : RunLN P c n ds ops rest k Q env w d (.bool m) := by subst hm; exact h
theorem RunLN.boolC {m : Bool} (ht : m = true → RunL P c n ds ops rest k Q ((d, .bool true) :: env) w) (hf : m = false → RunL P c n ds ops rest k Q ((d, .bool false) :: env) w) : RunLN P c n ds ops rest k Q env w d (.bool m) := by
  cases m with
  | true => exact ht rfl
  | false => exact hf rfl
theorem RunLN.decT {p : Prop} [Decidable p] (hp : p) (h : RunL P c n ds ops rest k Q ((d, .bool true) :: env) w) : RunLN P c n ds ops rest k Q env w d (.bool (decide p)) := .boolT (decide_eq_true hp) h
theorem RunLN.decF {p : Prop} [Decidable p] (hp : ¬ p) (h : RunL P c n ds ops rest k Q ((d, .bool false) :: env) w) : RunLN P c n ds ops rest k Q env w d (.bool (decide p)) := .boolF (decide_eq_false hp) h
theorem RunLN.eqT {a b : Int} (hp : a = b) (h : RunL P c n ds ops rest k Q ((d, .bool true) :: env) w) : RunLN P c n ds ops rest k Q env w d (.bool (a == b)) := .boolT (beq_iff_eq.2 hp) h
theorem RunLN.eqF {a b : Int} (hp : a ≠ b) (h : RunL P c n ds ops rest k Q ((d, .bool false) :: env) w) : RunLN P c n ds ops rest k Q env w d (.bool (a == b)) := .boolF (beq_eq_false_iff_ne.2 hp) h
theorem RunLN.neT {a b : Int} (hp : a ≠ b) (h : RunL P c n ds ops rest k Q ((d, .bool true) :: env) w) : RunLN P c n ds ops rest k Q env w d (.bool (a != b)) := .boolT (bne_iff_ne.2 hp) h
theorem RunLN.neF {a b : Int} (hp : a = b) (h : RunL P c n ds ops rest k Q ((d, .bool false) :: env) w) : RunLN P c n ds ops rest k Q env w d (.bool (a != b)) := .boolF (bne_eq_false_iff_eq.2 hp) h
theorem RunLN.int {kd : IntKind} {m m' : Int} (hm : m = m') (h : RunL P c n ds ops rest k Q ((d, .int kd m') :: env) w) : RunLN P c n ds ops rest k Q env w d (.int kd m) := by subst hm; exact h
theorem RunLN.any {v : Value} (h : RunL P c n ds ops rest k Q ((d, v) :: env) w) : RunLN P c n ds ops rest k Q env w d v := h
/-- A call that gives a value and changes nothing. -/
theorem RunL.callN {g : FuncId} {args : Array Operand} {ts : Array TypeId} {vs : List Value} {v : Value}
    (hw : wantE ops.toList env ⟨some d, .call ⟨.value (.func g), args, ts⟩, ty, pos, after, guard⟩ = some true) (hdst : Nat.blt d n = true) (ha : evL env args.toList = some vs)
    (hc : Rets P g vs w fun u w' => u = v ∧ w = w') (h : RunLN P c n ds ops rest k Q env w d v) :
    RunL P c n ds ops (⟨some d, .call ⟨.value (.func g), args, ts⟩, ty, pos, after, guard⟩ :: rest) k Q env w :=
  .call hw hdst ha hc fun _ _ hr => by obtain ⟨rfl, rfl⟩ := hr; exact h
/-- A value that is known to be such a Bool, taken apart. -/
theorem RunL.valC {m : Bool} (hw : wantE ops.toList env ⟨some d, op, ty, pos, after, guard⟩ = some true) (hdst : Nat.blt d n = true) (hd : isDefer op = false) (hv : OpV P env w ⟨some d, op, ty, pos, after, guard⟩ (.bool m))
    (ht : m = true → RunL P c n ds ops rest k Q ((d, .bool true) :: env) w) (hf : m = false → RunL P c n ds ops rest k Q ((d, .bool false) :: env) w) : RunL P c n ds ops (⟨some d, op, ty, pos, after, guard⟩ :: rest) k Q env w := by
  cases m with
  | true => exact .val hw hdst hd hv (ht rfl)
  | false => exact .val hw hdst hd hv (hf rfl)
end
section
variable {P : Program} {c : Ctx} {k : List Item} {Q : Out → Act → World → Prop} {w0 : World} {n : Nat} {ds : List Deferred} {env : Env} {S : Nat → Prop} {sats pres : List (Nat × Pred)} {ph : Option (Option Nat × Pred)} {mu : List Bool}
variable {l : List Oper} {d : Tmp} {op : Op} {ty : TypeId} {pos : String} {after : Array Edge} {guard : Option (Nat × Bool)} {rest : List Oper}
theorem Asy.pureC {T : Tab} (hT : T.Ok P) {m : Bool} (hw : wantE l env ⟨some d, op, ty, pos, after, guard⟩ = some true) (hdst : Nat.blt d n = true) (hv : evalOp T env op = some (.bool m))
    (ht : m = true → Asy P c n ds S w0 l k Q rest ⟨(d, .bool true) :: env, sats, ph, false :: mu, pres⟩) (hf : m = false → Asy P c n ds S w0 l k Q rest ⟨(d, .bool false) :: env, sats, ph, false :: mu, pres⟩) :
    Asy P c n ds S w0 l k Q (⟨some d, op, ty, pos, after, guard⟩ :: rest) ⟨env, sats, ph, mu, pres⟩ := by
  cases m with
  | true => exact .pure hT hw hdst hv (ht rfl)
  | false => exact .pure hT hw hdst hv (hf rfl)
def AsyN (P : Program) (c : Ctx) (n : Nat) (ds : List Deferred) (S : Nat → Prop) (w0 : World) (l : List Oper) (k : List Item) (Q : Out → Act → World → Prop) (rest : List Oper) (env : Env) (sats : List (Nat × Pred)) (ph : Option (Option Nat × Pred)) (mu : List Bool) (pres : List (Nat × Pred)) (d : Tmp) (v : Value) : Prop :=
  Asy P c n ds S w0 l k Q rest ⟨(d, v) :: env, sats, ph, false :: mu, pres⟩
theorem Asy.ev {T : Tab} (hT : T.Ok P) {v : Value} (hw : wantE l env ⟨some d, op, ty, pos, after, guard⟩ = some true) (hdst : Nat.blt d n = true) (hv : evalOp T env op = some v)
    (h : AsyN P c n ds S w0 l k Q rest env sats ph mu pres d v) : Asy P c n ds S w0 l k Q (⟨some d, op, ty, pos, after, guard⟩ :: rest) ⟨env, sats, ph, mu, pres⟩ := .pure hT hw hdst hv h
theorem Asy.evV {v : Value} (hw : wantE l env ⟨some d, op, ty, pos, after, guard⟩ = some true) (hdst : Nat.blt d n = true) (hd : isDefer op = false) (hs : isSel op = false)
    (hv : ∀ w', ExtB S w0 w' → OpV P env w' ⟨some d, op, ty, pos, after, guard⟩ v)
    (h : AsyN P c n ds S w0 l k Q rest env sats ph mu pres d v) : Asy P c n ds S w0 l k Q (⟨some d, op, ty, pos, after, guard⟩ :: rest) ⟨env, sats, ph, mu, pres⟩ := .v hw hdst hd hs hv h
theorem AsyN.boolT {m : Bool} (hm : m = true) (h : Asy P c n ds S w0 l k Q rest ⟨(d, .bool true) :: env, sats, ph, false :: mu, pres⟩) : AsyN P c n ds S w0 l k Q rest env sats ph mu pres d (.bool m) := by subst hm; exact h
theorem AsyN.boolF {m : Bool} (hm : m = false) (h : Asy P c n ds S w0 l k Q rest ⟨(d, .bool false) :: env, sats, ph, false :: mu, pres⟩) : AsyN P c n ds S w0 l k Q rest env sats ph mu pres d (.bool m) := by subst hm; exact h
theorem AsyN.boolC {m : Bool} (ht : m = true → Asy P c n ds S w0 l k Q rest ⟨(d, .bool true) :: env, sats, ph, false :: mu, pres⟩) (hf : m = false → Asy P c n ds S w0 l k Q rest ⟨(d, .bool false) :: env, sats, ph, false :: mu, pres⟩) :
    AsyN P c n ds S w0 l k Q rest env sats ph mu pres d (.bool m) := by
  cases m with
  | true => exact ht rfl
  | false => exact hf rfl
theorem AsyN.decT {p : Prop} [Decidable p] (hp : p) (h : Asy P c n ds S w0 l k Q rest ⟨(d, .bool true) :: env, sats, ph, false :: mu, pres⟩) : AsyN P c n ds S w0 l k Q rest env sats ph mu pres d (.bool (decide p)) := .boolT (decide_eq_true hp) h
theorem AsyN.decF {p : Prop} [Decidable p] (hp : ¬ p) (h : Asy P c n ds S w0 l k Q rest ⟨(d, .bool false) :: env, sats, ph, false :: mu, pres⟩) : AsyN P c n ds S w0 l k Q rest env sats ph mu pres d (.bool (decide p)) := .boolF (decide_eq_false hp) h
theorem AsyN.eqT {a b : Int} (hp : a = b) (h : Asy P c n ds S w0 l k Q rest ⟨(d, .bool true) :: env, sats, ph, false :: mu, pres⟩) : AsyN P c n ds S w0 l k Q rest env sats ph mu pres d (.bool (a == b)) := .boolT (beq_iff_eq.2 hp) h
theorem AsyN.eqF {a b : Int} (hp : a ≠ b) (h : Asy P c n ds S w0 l k Q rest ⟨(d, .bool false) :: env, sats, ph, false :: mu, pres⟩) : AsyN P c n ds S w0 l k Q rest env sats ph mu pres d (.bool (a == b)) := .boolF (beq_eq_false_iff_ne.2 hp) h
theorem AsyN.neT {a b : Int} (hp : a ≠ b) (h : Asy P c n ds S w0 l k Q rest ⟨(d, .bool true) :: env, sats, ph, false :: mu, pres⟩) : AsyN P c n ds S w0 l k Q rest env sats ph mu pres d (.bool (a != b)) := .boolT (bne_iff_ne.2 hp) h
theorem AsyN.neF {a b : Int} (hp : a = b) (h : Asy P c n ds S w0 l k Q rest ⟨(d, .bool false) :: env, sats, ph, false :: mu, pres⟩) : AsyN P c n ds S w0 l k Q rest env sats ph mu pres d (.bool (a != b)) := .boolF (bne_eq_false_iff_eq.2 hp) h
theorem AsyN.int {kd : IntKind} {m m' : Int} (hm : m = m') (h : Asy P c n ds S w0 l k Q rest ⟨(d, .int kd m') :: env, sats, ph, false :: mu, pres⟩) : AsyN P c n ds S w0 l k Q rest env sats ph mu pres d (.int kd m) := by subst hm; exact h
theorem AsyN.any {v : Value} (h : Asy P c n ds S w0 l k Q rest ⟨(d, v) :: env, sats, ph, false :: mu, pres⟩) : AsyN P c n ds S w0 l k Q rest env sats ph mu pres d v := h
theorem Asy.callN {g : FuncId} {args : Array Operand} {ts : Array TypeId} {vs : List Value} {v : Value}
    (hw : wantE l env ⟨some d, .call ⟨.value (.func g), args, ts⟩, ty, pos, after, guard⟩ = some true) (hdst : Nat.blt d n = true) (ha : evL env args.toList = some vs)
    (hc : ∀ w', ExtB S w0 w' → Rets P g vs w' fun u w'' => u = v ∧ Ext w' w'') (h : AsyN P c n ds S w0 l k Q rest env sats ph mu pres d v) :
    Asy P c n ds S w0 l k Q (⟨some d, .call ⟨.value (.func g), args, ts⟩, ty, pos, after, guard⟩ :: rest) ⟨env, sats, ph, mu, pres⟩ :=
  .val hw hdst rfl rfl (fun w' e => OpE.call ha (hc w' e)) h
/-- As pre0, sat1, wriP: it reads one that is known by a lasting law; two known by laws that last till now. -/
theorem Asy.pre1 (i : Nat) {t : Nat} {U : Pred} (V : Pred) (hi : sats[i]? = some (t, U)) (hl : (Oper.looksAt l.toArray ⟨some d, op, ty, pos, after, guard⟩).contains t = true)
    (hw : wantE l env ⟨some d, op, ty, pos, after, guard⟩ = some true) (hdst : Nat.blt d n = true) (hd : isDefer op = false) (hs : isSel op = false)
    (hV : ∀ v w' w'', ExtB S w0 w' → Ext w' w'' → V v w' → V v w'')
    (h : ∀ w' x, ExtB S w0 w' → U x w' → OpE P ((t, x) :: env) w' ⟨some d, op, ty, pos, after, guard⟩ (fun u w'' => Ext w' w'' ∧ V u w'') fun _ _ => False)
    (h' : Asy P c n ds S w0 l k Q rest ⟨env.del (some d), sats, ph, false :: mu, (d, V) :: pres⟩) : Asy P c n ds S w0 l k Q (⟨some d, op, ty, pos, after, guard⟩ :: rest) ⟨env, sats, ph, mu, pres⟩ :=
  .step (e := .pre V) ⟨hdst, hs, hw, hd, hV, fun w' ρ hx hg => h w' _ hx (hg.sat t U (List.mem_of_getElem? hi) (by simpa using hl)) ρ (ev_cons hg.ev rfl)⟩ h'
theorem Asy.wriP2 (i j : Nat) {t s : Nat} {U U' : Pred} (V : Pred) (hi : pres[i]? = some (t, U)) (hl : (Oper.looksAt l.toArray ⟨some d, op, ty, pos, after, guard⟩).contains t = true)
    (hj : pres[j]? = some (s, U')) (hl' : (Oper.looksAt l.toArray ⟨some d, op, ty, pos, after, guard⟩).contains s = true)
    (hw : wantE l env ⟨some d, op, ty, pos, after, guard⟩ = some true) (hdst : Nat.blt d n = true) (hd : isDefer op = false) (hs : isSel op = false)
    (hV : ∀ v w' w'', ExtB S w0 w' → Ext w' w'' → V v w' → V v w'')
    (h : ∀ w' x y, Ext w0 w' → U x w' → U' y w' → OpE P ((t, x) :: (s, y) :: env) w' ⟨some d, op, ty, pos, after, guard⟩ (fun u w'' => ExtB S w' w'' ∧ V u w'') fun _ _ => False)
    (h' : Asy P c n ds S w0 l k Q rest ⟨env.del (some d), sats, some (some d, V), true :: mu, pres⟩) : Asy P c n ds S w0 l k Q (⟨some d, op, ty, pos, after, guard⟩ :: rest) ⟨env, sats, none, mu, pres⟩ :=
  .step (e := .wri V) ⟨hdst, hs, hw, hd, hV, fun w' ρ hx hg hp => h w' _ _ hx (hp rfl t U (List.mem_of_getElem? hi) (by simpa using hl)) (hp rfl s U' (List.mem_of_getElem? hj) (by simpa using hl')) ρ (ev_cons (ev_cons hg.ev rfl) rfl)⟩ h'
/-- It writes what was there. -/
theorem Asy.keepN (hw : wantE l env ⟨none, op, ty, pos, after, guard⟩ = some true) (hd : isDefer op = false) (hs : isSel op = false)
    (h : ∀ w', ExtB S w0 w' → OpE P env w' ⟨none, op, ty, pos, after, guard⟩ (fun u w'' => u = undef ∧ w'' = w') fun _ _ => False)
    (h' : Asy P c n ds S w0 l k Q rest ⟨env, sats, ph, false :: mu, pres⟩) : Asy P c n ds S w0 l k Q (⟨none, op, ty, pos, after, guard⟩ :: rest) ⟨env, sats, ph, mu, pres⟩ :=
  .step (e := .val undef) ⟨rfl, hs, .inr ⟨hw, hd, fun w' ρ hx hg => (h w' hx ρ hg.ev).mono (by rintro _ _ ⟨rfl, rfl⟩; exact ⟨rfl, ExtB.refl _ _⟩) (fun _ _ h => h)⟩⟩ h'
theorem Asy.end_ (hc : chk l mu.reverse l [] = true) (h : ∀ w', Ext w0 w' → RunL P c n ds l.toArray rest k Q env w') : Asy P c n ds (fun _ => False) w0 l k Q rest ⟨env, [], none, mu, pres⟩ :=
  .tail hc fun w' e => by simpa [satsAll] using h w' e
end
theorem setObj_same {w : World} {b : Nat} {o : Obj} (h : w.heap[b]? = some o) : World.setObj w b o = w := by
  unfold World.setObj
  have : w.heap.setIfInBounds b o = w.heap := by
    apply Array.ext_getElem?
    intro k
    rw [Array.getElem?_setIfInBounds]
    by_cases e : b = k
    · subst e; rw [if_pos rfl, if_pos (lt_of_get h)]; exact h.symm
    · rw [if_neg e]
  rw [this]
theorem OpE.storeSame {P : Program} {w : World} {env : Env} {ty : TypeId} {pos : String} {after : Array Edge} {guard : Option (Nat × Bool)} {T : Tab} (hT : T.Ok P) {t bt : TypeId} {i : TI} {x y : Operand} {b o : Nat} {v : Value} {cs : List Value}
    (hx : evO env x = some (.pointer (some ⟨b, o, none⟩))) (hy : evO env y = some v)
    (ht : T.get t = some i) (hsz : v.cells.toList.length = i.size) (hb : Blk w b cs bt) (hlen : Nat.ble (o + v.cells.toList.length) cs.length = true) (hp : v.cells.toList.all plainV = true) (he : setAt cs o v.cells.toList = cs) :
    OpE P env w ⟨none, .store t x y, ty, pos, after, guard⟩ (fun u w' => u = undef ∧ w' = w) fun _ _ => False := fun ρ hρ => by
  refine ExecE.of_skip (w' := w) ?_ ⟨rfl, rfl⟩
  simp only [execOp, Instr.storeAt, hρ _ _ hx, hρ _ _ hy]
  refine Eq.trans (run_bind (v := ()) (w' := w) _ _ ?_) rfl
  rw [run_bind _ _ (show (Instr.sureAddr (.pointer (some ⟨b, o, none⟩))).run P w = .ok ⟨b, o, none⟩ w from rfl)]
  obtain ⟨j, hj, hs, _⟩ := TI.info (hT.get _ _ ht)
  unfold storeVar
  rw [run_bind _ _ (run_sizeOf hj)]
  rw [if_neg (by rw [hs, ← hsz]; simp)]
  have := run_storeCells (P := P) v.cells.toList 0 cs hb (by have := Nat.le_of_ble_eq_true hlen; omega) (List.all_eq_true.1 hp)
  rw [Nat.add_zero, he] at this
  rw [show World.setObj w b (.cells cs.toArray bt (0, 0)) = w from setObj_same hb] at this
  simpa using this
theorem Blk.up {w w' : World} {b : Nat} {cs : List Value} {t : TypeId} (h : Blk w b cs t) (e : Ext w w') : Blk w' b cs t := h.ext e id
theorem Row.up {w w' : World} {b o : Nat} {cs : List Value} (h : Row w b o cs) (e : Ext w w') : Row w' b o cs := h.extE e
theorem IsSl.up {w w' : World} {sz n : Nat} {v : Value} {cs : List Value} (h : IsSl w sz v n cs) (e : Ext w w') : IsSl w' sz v n cs := h.extE e
/-- A new block stands behind what was there. -/
theorem Added.ge {w w1 w' : World} {B : Nat} {o : Obj} (h : Added w1 w' B o) (x : Ext w w1) : w.heap.size ≤ B := by rw [h.eq]; exact x.size
/-- An own block is written. -/
theorem ExtB.own {w w1 w2 : World} {B : Nat} (x : Ext w w1) (e : ExtB (· = B) w1 w2) (h : w.heap.size ≤ B) : Ext w w2 := x.write e fun i hi hlt => by subst hi; omega
theorem Blk.other {w w' : World} {b B : Nat} {cs : List Value} {t : TypeId} (h : Blk w b cs t) (e : ExtB (· = B) w w') (hn : b ≠ B) : Blk w' b cs t := h.ext e hn
end Go.Rn
namespace Go.Rec
open Go.Rn
/-- Elements of k cells each. -/
structure EncOk {α : Type} (enc : α → List Value) (k : Nat) : Prop where
  len : ∀ x, (enc x).length = k
  plain : ∀ x, (enc x).all plainV = true
  pos : 0 < k
section
variable {α : Type} {enc : α → List Value} {k : Nat}
def flat (enc : α → List Value) (l : List α) : List Value := (l.map enc).flatten
theorem flat_nil : flat enc [] = [] := rfl
theorem flat_cons (x : α) (l : List α) : flat enc (x :: l) = enc x ++ flat enc l := by simp [flat]
theorem flat_append (a b : List α) : flat enc (a ++ b) = flat enc a ++ flat enc b := by simp [flat]
theorem flat_one (x : α) : flat enc [x] = enc x := by simp [flat]
theorem flat_length (h : EncOk enc k) : ∀ (l : List α), (flat enc l).length = l.length * k
  | [] => by simp [flat]
  | x :: l => by rw [flat_cons, List.length_append, h.len, flat_length h l, List.length_cons, Nat.add_mul]; omega
theorem flat_drop (h : EncOk enc k) : ∀ (l : List α) (i : Nat), (flat enc l).drop (i * k) = flat enc (l.drop i)
  | l, 0 => by simp
  | [], i + 1 => by simp [flat]
  | x :: l, i + 1 => by
    rw [flat_cons, List.drop_succ_cons, ← flat_drop h l i, List.drop_append, h.len, Nat.add_mul, Nat.one_mul, Nat.add_sub_cancel]
    rw [List.drop_eq_nil_of_le (by rw [h.len]; omega)]; rfl
theorem flat_take (h : EncOk enc k) : ∀ (l : List α) (i : Nat), (flat enc l).take (i * k) = flat enc (l.take i)
  | l, 0 => by simp [flat]
  | [], i + 1 => by simp [flat]
  | x :: l, i + 1 => by
    rw [flat_cons, List.take_succ_cons, flat_cons, ← flat_take h l i, List.take_append, h.len, Nat.add_mul, Nat.one_mul, Nat.add_sub_cancel]
    rw [List.take_of_length_le (by rw [h.len]; omega)]
theorem flat_plain (h : EncOk enc k) (l : List α) : (flat enc l).all plainV = true := by
  simp only [flat, List.all_flatten, List.all_map, List.all_eq_true]
  intro x _; exact h.plain x
theorem flat_row (h : EncOk enc k) {w : World} {b o : Nat} {l : List α} (hr : Row w b o (flat enc l)) {i : Nat} {x : α} (hx : l[i]? = some x) : Row w b (o + i * k) (enc x) := by
  refine hr.window (k := i * k) fun j v hv => ?_
  have e := flat_drop h l i
  have hd : l.drop i = x :: l.drop (i + 1) := by
    obtain ⟨hi, e⟩ := List.getElem?_eq_some_iff.1 hx
    rw [List.drop_eq_getElem_cons hi, e]
  rw [hd, flat_cons] at e
  have := congrArg (·[j]?) e
  simp only [List.getElem?_drop] at this
  rw [this, List.getElem?_append_left]
  · exact hv
  · rcases Nat.lt_or_ge j (enc x).length with h' | h'
    · exact h'
    · rw [List.getElem?_eq_none h'] at hv; simp at hv
abbrev IsL (w : World) (enc : α → List Value) (k : Nat) (v : Value) (l : List α) : Prop := IsSl w k v l.length (flat enc l)
/-- Opened: nothing, or a row. -/
theorem isL_inv {w : World} {v : Value} {l : List α} (h : IsL w enc k v l) : (∃ d, v = .slice d 0 0 ∧ l = []) ∨ ∃ b o cap, v = .slice (some ⟨b, o, none⟩) l.length cap ∧ Row w b o (flat enc l) ∧ l.length ≤ cap := by
  rcases h.inv with ⟨d, rfl, h, -⟩ | ⟨b, o, cap, rfl, hr, -, hc⟩
  · exact .inl ⟨d, rfl, List.length_eq_zero_iff.1 h⟩
  · exact .inr ⟨b, o, cap, rfl, hr, hc⟩
theorem isSl_slice {w : World} {sz n : Nat} {v : Value} {cs : List Value} (h : IsSl w sz v n cs) : ∃ d c, v = .slice d n c := by
  rcases h.inv with ⟨d, rfl, h, -⟩ | ⟨b, o, c, rfl, -⟩
  · exact ⟨d, 0, by rw [h]⟩
  · exact ⟨_, c, rfl⟩
theorem isL_ext {S : Nat → Prop} {w w' : World} {v : Value} {l : List α} (h : IsL w enc k v l) (e : ExtB S w w') (hs : l ≠ [] → ∀ j, v.ownBlock = some j → ¬ S j) : IsL w' enc k v l := by
  cases l with
  | cons a l => exact h.ext e (hs (by simp))
  | nil =>
    rcases h.inv with ⟨d, rfl, -, -⟩ | ⟨b, o, c, rfl, hr, hl, hc⟩
    · exact .nil
    · exact .row (fun i v hv => by simp [flat] at hv) hl hc
theorem isL_own {w : World} {v : Value} {l : List α} (h : IsL w enc k v l) (hk : 0 < k) (hl : l ≠ []) {j : Nat} (hj : v.ownBlock = some j) : j < w.heap.size := by
  cases l with
  | nil => exact absurd rfl hl
  | cons a l => exact h.lt (by simp) hk hj
theorem isL_held {w : World} {v : Value} {l : List α} (h : IsL w enc k v l) {i : Nat} (hi : i < l.length) : ∃ b o cap, v = .slice (some ⟨b, o, none⟩) l.length cap ∧ Row w b o (flat enc l) ∧ l.length ≤ cap := by
  obtain ⟨b, o, cap, h1, h2, -, h3⟩ := h.held (by omega)
  exact ⟨b, o, cap, h1, h2, h3⟩
end
end Go.Rec
end
section
/- Arguments that are structs, lists of structs. -/
namespace Go.Sg
open Go.Rn Go.RowKit Go.WideShapes Go.ChangeShapes Go.Rec
section
variable {H : Type} {enc : TypeId × Value → H} {P : Program} {w : World}
theorem okWide_sl {t e : TypeId} {r : Reach} {b0 : Nat} {v : Value} (ht : P.underlying t = some (.slice e)) (h : Value.okWide P w r b0 t v) : ∃ d n c, v = .slice d n c := by
  unfold Value.okWide at h
  rw [ht] at h
  simp only [Cell.okWide, ht, Cell.ok] at h
  cases v <;> simp_all

theorem open_flat {t : TypeId} {v : Value} {d : DataW H} {ps : List MemPlace} {held : Bool} {r : Reach} {b0 : Nat} {ts : List (TypeId × FK)} (hF : Flat P t ts) (hval : Value.okWide P w r b0 t v)
    (h : DataW.Trod enc P w 0 (fun _ => true) held t v d ps) : ∃ cs : List Value, v = .agg cs.toArray ∧ cs.length = ts.length ∧ ∀ (i : Nat) (x : TypeId × FK), ts[i]? = some x → ∃ u, cs[i]? = some u ∧ x.2.wf u := by
  unfold Value.okWide at hval
  rw [hF.und] at hval
  obtain ⟨cs, rfl, -, -⟩ := hval
  obtain ⟨fuel, hf⟩ := shp_of_Trod h
  exact ⟨cs.toList, by simp, shp_flat hF hf⟩
theorem open_rows {α : Type} {en : α → List Value} {k : Nat} (hk : EncOk en k) {wfx : α → Prop} {t e : TypeId} {v : Value} {d : DataW H} {ps : List MemPlace} {held : Bool} {r : Reach} {b0 : Nat} (ht : P.underlying t = some (.slice e)) (hs : P.cellsOf e = k)
    (hrow : ∀ fuel cs, Shp P w fuel e cs → ∃ x, cs = en x ∧ wfx x) (hval : Value.okWide P w r b0 t v)
    (h : DataW.Trod enc P w 0 (fun _ => true) held t v d ps) : ∃ l : List α, l.length < 9223372036854775808 ∧ IsL w en k v l ∧ ∀ x ∈ l, wfx x := by
  obtain ⟨a, n, c, rfl⟩ := okWide_sl ht hval
  obtain ⟨fuel, hf⟩ := shp_of_Trod h
  obtain ⟨f, u, m, rows, hv, hm, hr, hrs, hsl⟩ := hf.slice ht hs hk.pos
  have hu : u = .slice a n c := by simpa [Value.cells] using hv.symm
  subst hu
  obtain ⟨l, hl, hw⟩ : ∃ l : List α, rows = l.map en ∧ ∀ x ∈ l, wfx x := by
    clear hr hsl
    induction rows with
    | nil => exact ⟨[], rfl, by simp⟩
    | cons r rs ih =>
      obtain ⟨l, rfl, h2⟩ := ih fun r hr => hrs r (List.mem_cons_of_mem _ hr)
      obtain ⟨x, rfl, hx⟩ := hrow f r (hrs r List.mem_cons_self).2
      exact ⟨x :: l, rfl, fun y hy => by
        rcases List.mem_cons.1 hy with rfl | hy
        · exact hx
        · exact h2 y hy⟩
  subst hl
  have hlm : l.length = m := by simpa using hr
  refine ⟨l, by simp only [maxLen] at hm; omega, ?_, hw⟩
  rw [← hlm] at hsl
  exact hsl
end
end Go.Sg
end
section
/- A tied law's last step: what the listed variables hold; arguments that are texts and bytes. -/
namespace Go.Sg
open Go.Rn Go.RowKit Go.WideShapes Go.ChangeShapes

section
variable {H : Type} {enc : TypeId × Value → H} {P : Program} {w : World}

theorem trod_array {t e : TypeId} {n fuel : Nat} {cs : List Value} {x : DataW H × List MemPlace} {base : Nat} {sp : Nat → Bool} {held : Bool} (ht : P.underlying t = some (.array n e)) (h : DataW.trod enc P w base sp held fuel t cs = some x) :
    ∃ xs f, fuel = f + 1 ∧ x = (.agg (xs.map (·.1)), xs.flatMap (·.2)) ∧ cs.length = P.cellsOf t ∧
      (List.range n).mapM (fun i => DataW.trod enc P w base sp held f e ((cs.drop (i * P.cellsOf e)).take (P.cellsOf e))) = some xs := by
  cases fuel with
  | zero => simp [DataW.trod] at h
  | succ f =>
    unfold DataW.trod at h
    rw [ht] at h
    split at h <;> simp_all
    obtain ⟨hl, xs, hxs, hd⟩ := h
    exact ⟨xs, hd.symm, hxs⟩

theorem ints_of_trod {k : IntKind} {t e : TypeId} {n : Nat} {fuel : Nat} {cs : List Value} {zs : List Int} {p : List MemPlace} {held : Bool} (ht : P.underlying t = some (.array n e)) (he : P.underlying e = some (.int k)) (hc : P.cellsOf e = 1) (hn : zs.length = n) (hct : P.cellsOf t = n)
    (h : DataW.trod enc P w 0 (fun _ => true) held fuel t cs = some (.agg (zs.map fun z => .lit (.int k z)), p)) : cs = zs.map fun z => Value.int k z := by
  obtain ⟨xs, f, rfl, hx0, hl, hxs⟩ := trod_array ht h
  have hd : zs.map (fun z => DataW.lit (.int k z)) = xs.map (·.1) := by
    have := congrArg Prod.fst hx0
    simpa using this
  clear h hx0
  rw [hct] at hl
  · have hlen := mapM_some_length hxs
    apply List.ext_getElem
    · simp [hl, hn]
    · intro i h1 h2
      have hi : i < n := by omega
      have hx := mapM_some_get hxs i i (by simp [hi])
      have hxi : i < xs.length := by rw [hlen]; simpa using hi
      rw [List.getElem?_eq_getElem hxi] at hx
      have e1 : ((cs.drop (i * P.cellsOf e)).take (P.cellsOf e)) = [cs[i]] := by
        rw [hc, Nat.mul_one, List.drop_eq_getElem_cons h1]; rfl
      rw [e1] at hx
      obtain ⟨m, hm, hm2, -⟩ := DataW.trod_int he hx
      have hm' : cs[i] = .int k m := by simpa using hm
      have hd' := congrArg (fun l => l[i]?) hd
      simp only [List.getElem?_map, List.getElem?_eq_getElem hxi, Option.map_some] at hd'
      have hz : i < zs.length := by omega
      rw [List.getElem?_eq_getElem hz] at hd'
      simp only [Option.map_some, Option.some.injEq] at hd'
      rw [hm2] at hd'
      simp only [DataW.lit.injEq, Lit.int.injEq, true_and] at hd'
      rw [hm']; simp [hd']

theorem row_of_laid {k : IntKind} {n : String} {g : Nat} {t e : TypeId} {m : Nat} {zs : List Int} {l : List (String × DataW Unit)} (hL : laidMetH P l w) (hp : (l.all fun x => x.2.handleName?.isNone) = true) (hm : (n, DataW.agg (zs.map fun z => .lit (.int k z))) ∈ l)
    (hg : P.globalNamed n = some g) (hgt : (P.globals[g]?).map (·.type) = some t) (ht : P.underlying t = some (.array m e)) (he : P.underlying e = some (.int k)) (hc : P.cellsOf e = 1) (hn : zs.length = m) (hct : P.cellsOf t = m) :
    Row w g 0 (zs.map fun z => .int k z) := by
  rw [Go.MakeChecks.laidMetH_plain _ _ _ hp] at hL
  obtain ⟨ps, hv, -⟩ := hL
  have key : ∀ (l : List (String × DataW Unit)) (ps : List MemPlace), DataW.LaidVars P w l ps → (n, DataW.agg (zs.map fun z => .lit (.int k z))) ∈ l → ∃ cs, w.var? P n = some cs ∧ cs.toList = zs.map fun z => .int k z := by
    intro l
    induction l with
    | nil => intro ps _ h; simp at h
    | cons x r ih =>
      intro ps hv h
      obtain ⟨n', d'⟩ := x
      obtain ⟨g', t', cs, fuel, p, q, h1, h2, h3, h4, h5, -⟩ := hv
      rcases List.mem_cons.1 h with h | h
      · injection h with ha hb
        subst ha; subst hb
        rw [hg] at h1; injection h1 with h1; subst h1
        rw [hgt] at h2; injection h2 with h2; subst h2
        exact ⟨cs, h3, ints_of_trod ht he hc hn hct h4⟩
      · exact ih q h5 h
  obtain ⟨cs, h1, h2⟩ := key l ps hv hm
  intro i v hi
  rw [Nat.zero_add, World.var?_cell hg h1 i, ← h2] at *
  simpa using hi

theorem okWide_slice {t e : TypeId} {r : Reach} {b0 : Nat} {v : Value} (ht : P.underlying t = some (.slice e)) (h : Value.okWide P w r b0 t v) : ∃ d n c, v = .slice d n c := by
  unfold Value.okWide at h
  rw [ht] at h
  simp only [Cell.okWide, ht, Cell.ok] at h
  cases v <;> simp_all

theorem open_bytes {t e : TypeId} {v : Value} {d : DataW H} {ps : List MemPlace} {held : Bool} {r : Reach} {b0 : Nat} (ht : P.underlying t = some (.slice e)) (he : P.underlying e = some (.int .u8)) (hs : P.cellsOf e = 1) (hval : Value.okWide P w r b0 t v)
    (h : DataW.Trod enc P w 0 (fun _ => true) held t v d ps) : ∃ l : List UInt8, l.length ≤ maxLen ∧ IsSl w 1 v l.length (bytesV l) := by
  obtain ⟨a, n, c, rfl⟩ := okWide_slice ht hval
  obtain ⟨fuel, hf⟩ := shp_of_Trod h
  obtain ⟨v, l, hv, hl, hsl⟩ := hf.bytes ht he hs
  have : v = .slice a n c := by simpa [Value.cells] using hv.symm
  subst this
  exact ⟨l, hl, hsl⟩
end
end Go.Sg
end
section
/- Numbers of 32 bits as bit vectors. -/
namespace Go.Rn

theorem u32_bits : IntKind.u32.bits = 32 := rfl
theorem u32_wrap_nat (n : Nat) (h : n < 4294967296) : IntKind.u32.wrap (n : Int) = (n : Int) := wr_u32 (by omega) (by omega)
theorem bv_of (x : BitVec 32) : BitVec.ofInt IntKind.u32.bits (x.toNat : Int) = x := by
  show BitVec.ofInt 32 ((x.toNat : Nat) : Int) = x
  rw [BitVec.ofInt_natCast, BitVec.ofNat_toNat, BitVec.setWidth_eq]
theorem u32_xor (x y : BitVec 32) : IntKind.u32.wrap ((BitVec.ofInt IntKind.u32.bits (x.toNat : Int) ^^^ BitVec.ofInt IntKind.u32.bits (y.toNat : Int)).toNat : Int) = ((x ^^^ y).toNat : Int) := by
  rw [bv_of, bv_of]; exact u32_wrap_nat _ (BitVec.isLt (x ^^^ y))
theorem u32_and (x y : BitVec 32) : IntKind.u32.wrap ((BitVec.ofInt IntKind.u32.bits (x.toNat : Int) &&& BitVec.ofInt IntKind.u32.bits (y.toNat : Int)).toNat : Int) = ((x &&& y).toNat : Int) := by
  rw [bv_of, bv_of]; exact u32_wrap_nat _ (BitVec.isLt (x &&& y))
theorem u32_or (x y : BitVec 32) : IntKind.u32.wrap ((BitVec.ofInt IntKind.u32.bits (x.toNat : Int) ||| BitVec.ofInt IntKind.u32.bits (y.toNat : Int)).toNat : Int) = ((x ||| y).toNat : Int) := by
  rw [bv_of, bv_of]; exact u32_wrap_nat _ (BitVec.isLt (x ||| y))
theorem u32_add (x y : BitVec 32) : IntKind.u32.wrap ((x.toNat : Int) + (y.toNat : Int)) = ((x + y).toNat : Int) := by
  rw [wrap_u32, BitVec.toNat_add]; omega
theorem u32_shl (x : BitVec 32) (n : Nat) (h : n ≤ 32) : IntKind.u32.wrap ((x.toNat : Int) * 2 ^ (min n IntKind.u32.bits)) = ((x <<< n).toNat : Int) := by
  rw [wrap_u32, BitVec.toNat_shiftLeft, Nat.shiftLeft_eq, u32_bits, Nat.min_eq_left h]
  have : (x.toNat : Int) * 2 ^ n = ((x.toNat * 2 ^ n : Nat) : Int) := by simp
  rw [this]; omega
theorem u32_shr (x : BitVec 32) (n : Nat) (h : n ≤ 32) : ((x.toNat : Int).fdiv (2 ^ (min n IntKind.u32.bits))) = ((x >>> n).toNat : Int) := by
  rw [BitVec.toNat_ushiftRight, Nat.shiftRight_eq_div_pow, u32_bits, Nat.min_eq_left h]
  rw [Int.fdiv_eq_ediv_of_nonneg _ (by exact Int.pow_nonneg (by omega))]
  simp
theorem u32_of_u8 (b : UInt8) : IntKind.u32.wrap ((b.toNat : Nat) : Int) = ((BitVec.ofNat 32 b.toNat).toNat : Int) := by
  have := b.toNat_lt
  rw [u32_wrap_nat _ (by omega), BitVec.toNat_ofNat]
  congr 1
  rw [Nat.mod_eq_of_lt (by omega)]

/-- A rotation to the right. -/
def rotr (x : BitVec 32) (n : Nat) : BitVec 32 := (x <<< (32 - n)) ||| (x >>> n)
section
variable {P : Program} {w : World} {env : Env} {dst : Option Tmp} {ty t yt : TypeId} {pos : String} {after : Array Edge} {guard : Option (Nat × Bool)} {x y : Operand} {a b : BitVec 32}
theorem OpV.bin32 {op : BinOp} {m : Int} (hs : op ≠ .shl) (hs' : op ≠ .shr) (hx : evO env x = some (.int .u32 (a.toNat : Int))) (hy : evO env y = some (.int .u32 (b.toNat : Int)))
    (h : evInt op .u32 (a.toNat : Int) (b.toNat : Int) = some (.int .u32 m)) : OpV P env w ⟨dst, .binOp op t x y yt, ty, pos, after, guard⟩ (.int .u32 m) := .of_run fun ρ hρ => by
  refine ⟨_, by simp only [execOp, hρ _ _ hx, hρ _ _ hy]; rfl, ?_⟩
  rw [run_bind _ _ (run_eqGuard_plain (P := P) (w := w) op t x y (by intro c; simp) (by simp))]
  exact run_intOp hs hs' h t
theorem OpV.xor32 (hx : evO env x = some (.int .u32 (a.toNat : Int))) (hy : evO env y = some (.int .u32 (b.toNat : Int))) :
    OpV P env w ⟨dst, .binOp .xor t x y yt, ty, pos, after, guard⟩ (.int .u32 ((a ^^^ b).toNat : Int)) := .bin32 (by decide) (by decide) hx hy (by rw [← Go.Rn.u32_xor]; rfl)
theorem OpV.and32 (hx : evO env x = some (.int .u32 (a.toNat : Int))) (hy : evO env y = some (.int .u32 (b.toNat : Int))) :
    OpV P env w ⟨dst, .binOp .and t x y yt, ty, pos, after, guard⟩ (.int .u32 ((a &&& b).toNat : Int)) := .bin32 (by decide) (by decide) hx hy (by rw [← Go.Rn.u32_and]; rfl)
theorem OpV.or32 (hx : evO env x = some (.int .u32 (a.toNat : Int))) (hy : evO env y = some (.int .u32 (b.toNat : Int))) :
    OpV P env w ⟨dst, .binOp .or t x y yt, ty, pos, after, guard⟩ (.int .u32 ((a ||| b).toNat : Int)) := .bin32 (by decide) (by decide) hx hy (by rw [← Go.Rn.u32_or]; rfl)
theorem OpV.add32 (hx : evO env x = some (.int .u32 (a.toNat : Int))) (hy : evO env y = some (.int .u32 (b.toNat : Int))) :
    OpV P env w ⟨dst, .binOp .add t x y yt, ty, pos, after, guard⟩ (.int .u32 ((a + b).toNat : Int)) := .bin32 (by decide) (by decide) hx hy (by rw [← u32_add]; rfl)
theorem OpV.shl32 {k : IntKind} {n : Nat} (hx : evO env x = some (.int .u32 (a.toNat : Int))) (hy : evO env y = some (.int k (.ofNat n))) (hn : Nat.ble n 32 = true) :
    OpV P env w ⟨dst, .binOp .shl t x y yt, ty, pos, after, guard⟩ (.int .u32 ((a <<< n).toNat : Int)) := .of_run fun ρ hρ => by
  refine ⟨_, by simp only [execOp, hρ _ _ hx, hρ _ _ hy]; rfl, ?_⟩
  rw [run_bind _ _ (run_eqGuard_plain (P := P) (w := w) .shl t x y (by intro c; simp) (by simp))]
  rw [← u32_shl a n (Nat.le_of_ble_eq_true hn)]
  simp only [binOp, Op.shift]
  rw [if_neg (by simp)]
  simp [pure]
theorem OpV.shr32 {k : IntKind} {n : Nat} (hx : evO env x = some (.int .u32 (a.toNat : Int))) (hy : evO env y = some (.int k (.ofNat n))) (hn : Nat.ble n 32 = true) :
    OpV P env w ⟨dst, .binOp .shr t x y yt, ty, pos, after, guard⟩ (.int .u32 ((a >>> n).toNat : Int)) := .of_run fun ρ hρ => by
  refine ⟨_, by simp only [execOp, hρ _ _ hx, hρ _ _ hy]; rfl, ?_⟩
  rw [run_bind _ _ (run_eqGuard_plain (P := P) (w := w) .shr t x y (by intro c; simp) (by simp))]
  rw [← u32_shr a n (Nat.le_of_ble_eq_true hn)]
  simp only [binOp, Op.shift]
  rw [if_neg (by simp)]
  simp [pure]
end
end Go.Rn
namespace Go.Sg
open Go.Rn Go.Proofs

theorem rot_count : ∀ n : Fin 32, 0 < n.val → IntKind.u64.wrap ((BitVec.ofInt IntKind.u64.bits (IntKind.u64.wrap (-(n.val : Int))) &&& BitVec.ofInt IntKind.u64.bits 31).toNat : Int) = ((32 - n.val : Nat) : Int) := by decide +kernel

theorem rotl_ok (x : BitVec 32) (n : Nat) (h0 : 0 < n) (h1 : n < 32) (w : World) : Rets Tryd.prog 131 [.int .u32 (x.toNat : Int), .int .i64 (-(n : Int))] w fun v w' => v = .int .u32 ((rotr x n).toNat : Int) ∧ w = w' := by
  have hc := rot_count ⟨n, h1⟩ h0
  simp only at hc
  refine RetsX.of (nt := 17) Tryd.func131 (by kernel_rfl) rfl rfl (by simp) (by simp only [argEnv]; rfl) ?_
  (repeat (first | refine RunE.seq ?_)); refine RunE.region ?_; (repeat (first | refine RunL.pureI Tryd.tOk rfl rfl rfl (by (first | exact wr_i64 (by omega) (by omega) | exact wm_i64 (by omega) | exact wq_i64 (by omega) (by omega) (by omega) | rfl)) ?_)); refine RunL.nil ?_
  repeat (first | refine RunE.seq ?_ | refine RunE.region ?_)
  refine RunL.pure Tryd.tOk rfl rfl rfl ?_
  refine RunL.pure Tryd.tOk rfl rfl rfl ?_
  refine RunL.pureI Tryd.tOk rfl rfl rfl hc ?_
  refine RunL.pure Tryd.tOk rfl rfl rfl ?_
  repeat (first | refine RunE.seq ?_ | refine RunE.region ?_ | refine RunL.nil ?_)
  refine RunL.pure Tryd.tOk rfl rfl rfl ?_
  refine RunL.pure Tryd.tOk rfl rfl rfl ?_
  refine RunL.pureI Tryd.tOk rfl rfl rfl (u32_shl _ _ (by omega)) ?_
  refine RunL.pure Tryd.tOk rfl rfl rfl ?_
  refine RunL.pure Tryd.tOk rfl rfl rfl ?_
  refine RunL.pureI (m' := (n : Int)) Tryd.tOk rfl rfl rfl (by rw [wrap_u64]; omega) ?_
  refine RunL.pureI Tryd.tOk rfl rfl rfl (u32_shr _ _ (by omega)) ?_
  refine RunL.pureI Tryd.tOk rfl rfl rfl (Go.Rn.u32_or _ _) ?_
  repeat (first | refine RunL.pureI Tryd.tOk rfl rfl rfl (by (first | exact wr_i64 (by omega) (by omega) | exact wm_i64 (by omega) | exact wq_i64 (by omega) (by omega) (by omega) | rfl)) ?_ | refine RunL.nil ?_)
  exact RunE.retFn Tryd.func131 (.tmp rfl .nil) ⟨rfl, rfl⟩

theorem ror_ok (x : BitVec 32) (n : Nat) (h1 : n < 32) (w : World) : Rets Tryd.prog 141 [.int .u32 (x.toNat : Int), .int .i64 (n : Int)] w fun v w' => v = .int .u32 ((rotr x n).toNat : Int) ∧ Ext w w' := by
  refine RetsX.of (nt := 13) Tryd.func141 (by kernel_rfl) rfl rfl (by simp) (by simp only [argEnv]; rfl) ?_
  repeat (first | refine RunL.pureI Tryd.tOk rfl rfl rfl (by (first | exact wr_i64 (by omega) (by omega) | exact wm_i64 (by omega) | exact wq_i64 (by omega) (by omega) (by omega) | rfl)) ?_ | refine RunE.seq ?_ | refine RunE.region ?_ | refine RunL.nil ?_)
  refine RunE.draw (fun _ => False) mix ?_
  intro w0 X
  refine Asy.pure Tryd.tOk rfl rfl rfl ?_
  refine Asy.pure Tryd.tOk rfl rfl rfl ?_
  refine Asy.pureI Tryd.tOk rfl rfl rfl (u32_shr _ _ (by omega)) ?_
  refine Asy.pure Tryd.tOk rfl rfl rfl ?_
  refine Asy.pure Tryd.tOk rfl rfl rfl ?_
  refine Asy.pureI (m' := ((32 - n : Nat) : Int)) Tryd.tOk rfl rfl rfl (by rw [wr_i64 (by omega) (by omega)]; omega) ?_
  refine Asy.pureI Tryd.tOk rfl rfl rfl (u32_shl _ _ (by omega)) ?_
  refine Asy.pureI Tryd.tOk rfl rfl rfl (Go.Rn.u32_or _ _) ?_
  refine Asy.pure Tryd.tOk rfl rfl rfl ?_
  refine Asy.tail (by kernel_rfl) ?_
  intro w1 X1
  simp only [satsAll]
  repeat (first | refine RunL.nil ?_)
  exact RunE.retFn Tryd.func141 (.tmp rfl .nil) ⟨by unfold rotr; rw [BitVec.or_comm]; rfl, X.trans X1⟩
end Go.Sg
end
section
/- What SHA-256 is; words of bytes. -/
namespace Go.Sha
open Go.Rn

abbrev W := BitVec 32
def s0 (x : W) : W := (rotr x 7 ^^^ rotr x 18) ^^^ (x >>> 3)
def s1 (x : W) : W := (rotr x 17 ^^^ rotr x 19) ^^^ (x >>> 10)
def S3 (x : W) (a b c : Nat) : W := (rotr x a ^^^ rotr x b) ^^^ rotr x c
def ch (e f g : W) : W := (e &&& f) ^^^ (~~~e &&& g)
def maj (a b c : W) : W := ((a &&& b) ^^^ (a &&& c)) ^^^ (b &&& c)
theorem ch_eq (e f g : W) : g ^^^ (e &&& (f ^^^ g)) = ch e f g := by
  apply BitVec.eq_of_getLsbD_eq
  intro i hi
  simp only [ch, BitVec.getLsbD_xor, BitVec.getLsbD_and, BitVec.getLsbD_not, hi, decide_true, Bool.true_and]
  cases e.getLsbD i <;> cases f.getLsbD i <;> cases g.getLsbD i <;> rfl
theorem maj_eq (a b c : W) : (a &&& b) ||| (c &&& (a ||| b)) = maj a b c := by
  apply BitVec.eq_of_getLsbD_eq
  intro i _
  simp only [maj, BitVec.getLsbD_xor, BitVec.getLsbD_and, BitVec.getLsbD_or]
  cases a.getLsbD i <;> cases b.getLsbD i <;> cases c.getLsbD i <;> rfl

/-- The word of four bytes. -/
def word (a b c d : UInt8) : W := BitVec.ofNat 32 (((a.toNat * 256 + b.toNat) * 256 + c.toNat) * 256 + d.toNat)

theorem or_base (x c : Nat) (hc : c < 256) : ((BitVec.ofNat 32 x <<< 8) ||| BitVec.ofNat 32 c : W) = BitVec.ofNat 32 (x * 256 + c) := by
  have h : x * 256 + c = x <<< 8 ||| c := by rw [← Nat.shiftLeft_add_eq_or_of_lt (by simpa using hc), Nat.shiftLeft_eq]
  rw [h, BitVec.ofNat_or]
  congr 1
  apply BitVec.eq_of_toNat_eq
  simp [Nat.shiftLeft_eq, BitVec.toNat_shiftLeft]
theorem or_step (x c n : Nat) (hc : c < 256) : ((BitVec.ofNat 32 x <<< (8 + n)) ||| (BitVec.ofNat 32 c <<< n) : W) = BitVec.ofNat 32 (x * 256 + c) <<< n := by
  rw [BitVec.shiftLeft_add, ← BitVec.shiftLeft_or_distrib, or_base x c hc]

structure S8 where
  a : W
  b : W
  c : W
  d : W
  e : W
  f : W
  g : W
  h : W

def S8.l (s : S8) : List W := [s.a, s.b, s.c, s.d, s.e, s.f, s.g, s.h]
def rnd (s : S8) (k w : W) : S8 :=
  let p := (((s.h + S3 s.e 6 11 25) + ch s.e s.f s.g) + k) + w
  let q := S3 s.a 2 13 22 + maj s.a s.b s.c
  ⟨p + q, s.a, s.b, s.c, s.d + p, s.e, s.f, s.g⟩
def kTab : List W := [0x428a2f98, 0x71374491, 0xb5c0fbcf, 0xe9b5dba5, 0x3956c25b, 0x59f111f1, 0x923f82a4, 0xab1c5ed5,
  0xd807aa98, 0x12835b01, 0x243185be, 0x550c7dc3, 0x72be5d74, 0x80deb1fe, 0x9bdc06a7, 0xc19bf174,
  0xe49b69c1, 0xefbe4786, 0x0fc19dc6, 0x240ca1cc, 0x2de92c6f, 0x4a7484aa, 0x5cb0a9dc, 0x76f988da,
  0x983e5152, 0xa831c66d, 0xb00327c8, 0xbf597fc7, 0xc6e00bf3, 0xd5a79147, 0x06ca6351, 0x14292967,
  0x27b70a85, 0x2e1b2138, 0x4d2c6dfc, 0x53380d13, 0x650a7354, 0x766a0abb, 0x81c2c92e, 0x92722c85,
  0xa2bfe8a1, 0xa81a664b, 0xc24b8b70, 0xc76c51a3, 0xd192e819, 0xd6990624, 0xf40e3585, 0x106aa070,
  0x19a4c116, 0x1e376c08, 0x2748774c, 0x34b0bcb5, 0x391c0cb3, 0x4ed8aa4a, 0x5b9cca4f, 0x682e6ff3,
  0x748f82ee, 0x78a5636f, 0x84c87814, 0x8cc70208, 0x90befffa, 0xa4506ceb, 0xbef9a3f7, 0xc67178f2]
def init8 : S8 := ⟨0x6a09e667, 0xbb67ae85, 0x3c6ef372, 0xa54ff53a, 0x510e527f, 0x9b05688c, 0x1f83d9ab, 0x5be0cd19⟩

def nextW (l : List W) (k : Nat) : W := ((l.getD k 0 + s0 (l.getD (k + 1) 0)) + l.getD (k + 9) 0) + s1 (l.getD (k + 14) 0)
def sched (l : List W) : Nat → List W
  | 0 => l
  | k + 1 => sched l k ++ [nextW (sched l k) k]
theorem sched_length (l : List W) (k : Nat) : (sched l k).length = l.length + k := by
  induction k with
  | zero => rfl
  | succ k ih => simp [sched, ih]; omega
def words (l : List UInt8) : Nat → List W
  | 0 => []
  | k + 1 => words l k ++ [word (l.getD (4 * k) 0) (l.getD (4 * k + 1) 0) (l.getD (4 * k + 2) 0) (l.getD (4 * k + 3) 0)]
theorem words_length (l : List UInt8) (k : Nat) : (words l k).length = k := by
  induction k with
  | zero => rfl
  | succ k ih => simp [words, ih]
def rnds (ws : List W) (s : S8) : Nat → S8
  | 0 => s
  | t + 1 => rnd (rnds ws s t) (kTab.getD t 0) (ws.getD t 0)
def S8.add (s v : S8) : S8 := ⟨s.a + v.a, s.b + v.b, s.c + v.c, s.d + v.d, s.e + v.e, s.f + v.f, s.g + v.g, s.h + v.h⟩
/-- The state after a block of 64 bytes. -/
def block (s : S8) (l : List UInt8) : S8 := s.add (rnds (sched (words l 16) 48) s 64)

def vals (l : List W) : List Value := l.map fun x => .int .u32 (x.toNat : Int)
theorem vals_length (l : List W) : (vals l).length = l.length := by simp [vals]
end Go.Sha
namespace Go.Sg
open Go.Rn Go.Sha Go.Proofs

def accB (l : List UInt8) (j : Nat) : Nat := (l.take j).foldl (fun n c => n * 256 + c.toNat) 0
theorem accB_succ {l : List UInt8} {j : Nat} {x : UInt8} (h : l[j]? = some x) : accB l (j + 1) = accB l j * 256 + x.toNat := by
  unfold accB
  rw [List.take_add_one, h, List.foldl_append]
  rfl

theorem digestWord_ok (x0 x1 x2 x3 : UInt8) (b o len cap : Nat) (w : World) (h4 : 4 ≤ len) (hc : len ≤ cap) (hr : Row w b o (bytesV [x0, x1, x2, x3])) :
    Rets Tryd.prog 130 [.slice (some ⟨b, o, none⟩) len cap] w fun v w' => v = .int .u32 ((word x0 x1 x2 x3).toNat : Int) ∧ w = w' := by
  refine RetsX.of (nt := 19) Tryd.func130 (by kernel_rfl) rfl rfl (by simp) (by simp only [argEnv]; rfl) ?_
  repeat (first | refine RunL.pureI Tryd.tOk rfl rfl rfl (by (first | exact wr_i64 (by omega) (by omega) | exact wm_i64 (by omega) | exact wq_i64 (by omega) (by omega) (by omega) | rfl)) ?_ | refine RunL.pure Tryd.tOk rfl rfl rfl ?_ | refine RunE.seq ?_ | refine RunE.region ?_ | refine RunL.nil ?_)
  refine RunL.val rfl rfl rfl (OpV.slice0 (hi := 4) Tryd.tOk rfl rfl .none (.some rfl rfl) (by omega)) ?_
  repeat (first | refine RunL.pureI Tryd.tOk rfl rfl rfl (by (first | exact wr_i64 (by omega) (by omega) | exact wm_i64 (by omega) | exact wq_i64 (by omega) (by omega) (by omega) | rfl)) ?_ | refine RunL.nil ?_ | refine RunE.block ?_)
  refine RunE.loop (ι := Nat) (fun j => [(6, .slice (some ⟨b, o, none⟩) 4 cap), (7, .int .i64 4), (8, .int .i64 (j : Int)), (2, .int .u32 ((BitVec.ofNat 32 (accB [x0, x1, x2, x3] j)).toNat : Int))])
    (fun j w' => w = w' ∧ j ≤ 4) (fun j => 4 - j) 0 (by repeat (first | exact Sub.nil _ | refine Sub.cons rfl ?_)) ⟨rfl, by omega⟩ ?_
  rintro j _ ⟨rfl, hj⟩ again
  repeat (first | refine RunL.pure Tryd.tOk rfl rfl rfl ?_ | refine RunE.seq ?_ | refine RunE.region ?_ | refine RunL.nil ?_)
  refine RunE.cond rfl (fun hlt => ?_) (fun hlt => ?_) <;> (first | replace hlt := of_decide_eq_true hlt | replace hlt := of_decide_eq_false hlt | replace hlt := beq_iff_eq.1 hlt | replace hlt := beq_eq_false_iff_ne.1 hlt | replace hlt := bne_iff_ne.1 hlt | replace hlt := bne_eq_false_iff_eq.1 hlt | skip)
  · have hlt' : j < [x0, x1, x2, x3].length := by simp; omega
    have hx : [x0, x1, x2, x3][j]? = some [x0, x1, x2, x3][j] := List.getElem?_eq_getElem hlt'
    generalize [x0, x1, x2, x3][j] = x at hx
    repeat (first | refine RunE.seq ?_ | refine RunE.region ?_ | refine RunE.block ?_ | refine RunE.skip ?_)
    refine RunL.val rfl rfl rfl (OpV.indexS1 Tryd.tOk j rfl rfl rfl rfl (by omega)) ?_
    refine RunL.val rfl rfl rfl (OpV.load1 (v := .int .u8 (x.toNat : Int)) Tryd.tOk rfl rfl rfl (hr j _ (by simp only [bytesV, List.getElem?_map, hx]; rfl))) ?_
    repeat (first | refine RunL.pureI Tryd.tOk rfl rfl rfl (by (first | with_reducible exact Go.Rn.u32_xor _ _ | with_reducible exact Go.Rn.u32_and _ _ | with_reducible exact Go.Rn.u32_or _ _ | with_reducible exact u32_add _ _ | with_reducible exact u32_shl _ _ (by decide) | with_reducible exact u32_shr _ _ (by decide) | with_reducible exact u32_of_u8 _ | exact wr_i64 (by omega) (by omega) | rfl)) ?_ | refine RunE.region ?_ | refine RunL.nil ?_ | refine RunE.inBlock ?_)
    exact RunE.weaken (by
      refine Sub.cons rfl (Sub.cons rfl (Sub.cons rfl (Sub.cons ?_ (Sub.nil _))))
      rw [accB_succ hx, ← or_base _ _ x.toNat_lt]
      rfl) (again (j + 1) _ (by omega) ⟨rfl, by omega⟩)
  · have hj4 : j = 4 := by omega
    subst hj4
    repeat (first | refine RunL.pureI Tryd.tOk rfl rfl rfl (by (first | exact wr_i64 (by omega) (by omega) | exact wm_i64 (by omega) | exact wq_i64 (by omega) (by omega) (by omega) | rfl)) ?_ | refine RunE.seq ?_ | refine RunE.region ?_ | refine RunL.nil ?_ | refine RunE.exit rfl ?_)
    exact RunE.retFn Tryd.func130 (.tmp rfl .nil) ⟨by simp [accB, word, oneOr], rfl⟩

theorem refWord_ok (x0 x1 x2 x3 : UInt8) (b o len cap : Nat) (w : World) (h4 : 4 ≤ len) (hr : Row w b o (bytesV [x0, x1, x2, x3])) :
    Rets Tryd.prog 140 [.slice (some ⟨b, o, none⟩) len cap] w fun v w' => v = .int .u32 ((word x0 x1 x2 x3).toNat : Int) ∧ Ext w w' := by
  refine RetsX.of (nt := 25) Tryd.func140 (by kernel_rfl) rfl rfl (by simp) (by simp only [argEnv]; rfl) ?_
  repeat (first | refine RunL.pureI Tryd.tOk rfl rfl rfl (by (first | exact wr_i64 (by omega) (by omega) | exact wm_i64 (by omega) | exact wq_i64 (by omega) (by omega) (by omega) | rfl)) ?_ | refine RunE.seq ?_ | refine RunE.region ?_ | refine RunL.nil ?_)
  refine RunE.draw (fun _ => False) mix ?_
  intro w0 X
  repeat (first | refine Asy.pure Tryd.tOk rfl rfl rfl ?_)
  refine Asy.v rfl rfl rfl rfl (fun _ _ => OpV.indexS1 Tryd.tOk 0 rfl rfl rfl rfl (by omega)) ?_
  refine Asy.v rfl rfl rfl rfl (fun _ X' => OpV.load1 Tryd.tOk rfl rfl rfl (hr.extE (X.trans X') 0 _ rfl)) ?_
  repeat (first | refine Asy.pureI Tryd.tOk rfl rfl rfl (by (first | with_reducible exact Go.Rn.u32_xor _ _ | with_reducible exact Go.Rn.u32_and _ _ | with_reducible exact Go.Rn.u32_or _ _ | with_reducible exact u32_add _ _ | with_reducible exact u32_shl _ _ (by decide) | with_reducible exact u32_shr _ _ (by decide) | with_reducible exact u32_of_u8 _ | exact wr_i64 (by omega) (by omega) | rfl)) ?_ | refine Asy.pure Tryd.tOk rfl rfl rfl ?_)
  refine Asy.v rfl rfl rfl rfl (fun _ _ => OpV.indexS1 Tryd.tOk 1 rfl rfl rfl rfl (by omega)) ?_
  refine Asy.v rfl rfl rfl rfl (fun _ X' => OpV.load1 Tryd.tOk rfl rfl rfl (hr.extE (X.trans X') 1 _ rfl)) ?_
  repeat (first | refine Asy.pureI Tryd.tOk rfl rfl rfl (by (first | with_reducible exact Go.Rn.u32_xor _ _ | with_reducible exact Go.Rn.u32_and _ _ | with_reducible exact Go.Rn.u32_or _ _ | with_reducible exact u32_add _ _ | with_reducible exact u32_shl _ _ (by decide) | with_reducible exact u32_shr _ _ (by decide) | with_reducible exact u32_of_u8 _ | exact wr_i64 (by omega) (by omega) | rfl)) ?_ | refine Asy.pure Tryd.tOk rfl rfl rfl ?_)
  refine Asy.v rfl rfl rfl rfl (fun _ _ => OpV.indexS1 Tryd.tOk 2 rfl rfl rfl rfl (by omega)) ?_
  refine Asy.v rfl rfl rfl rfl (fun _ X' => OpV.load1 Tryd.tOk rfl rfl rfl (hr.extE (X.trans X') 2 _ rfl)) ?_
  repeat (first | refine Asy.pureI Tryd.tOk rfl rfl rfl (by (first | with_reducible exact Go.Rn.u32_xor _ _ | with_reducible exact Go.Rn.u32_and _ _ | with_reducible exact Go.Rn.u32_or _ _ | with_reducible exact u32_add _ _ | with_reducible exact u32_shl _ _ (by decide) | with_reducible exact u32_shr _ _ (by decide) | with_reducible exact u32_of_u8 _ | exact wr_i64 (by omega) (by omega) | rfl)) ?_ | refine Asy.pure Tryd.tOk rfl rfl rfl ?_)
  refine Asy.v rfl rfl rfl rfl (fun _ _ => OpV.indexS1 Tryd.tOk 3 rfl rfl rfl rfl (by omega)) ?_
  refine Asy.v rfl rfl rfl rfl (fun _ X' => OpV.load1 Tryd.tOk rfl rfl rfl (hr.extE (X.trans X') 3 _ rfl)) ?_
  repeat (first | refine Asy.pureI Tryd.tOk rfl rfl rfl (by (first | with_reducible exact Go.Rn.u32_xor _ _ | with_reducible exact Go.Rn.u32_and _ _ | with_reducible exact Go.Rn.u32_or _ _ | with_reducible exact u32_add _ _ | with_reducible exact u32_shl _ _ (by decide) | with_reducible exact u32_shr _ _ (by decide) | with_reducible exact u32_of_u8 _ | exact wr_i64 (by omega) (by omega) | rfl)) ?_)
  refine Asy.tail (by kernel_rfl) ?_
  intro w1 X1
  simp only [satsAll]
  repeat (first | refine RunL.nil ?_)
  refine RunE.retFn Tryd.func140 (.tmp rfl .nil) ⟨?_, X.trans X1⟩
  unfold word
  rw [or_step _ _ 16 x1.toNat_lt, or_step _ _ 8 x2.toNat_lt, or_base _ _ x3.toNat_lt]
  rfl
end Go.Sg
end
section
/- The program's SHA-256: a block. -/
namespace Go.Sha
open Go.Rn
theorem vals_append (A B : List W) : vals (A ++ B) = vals A ++ vals B := by simp [vals]
theorem vals_get {A : List W} {i : Nat} (B : List W) (h : i < A.length) : (vals (A ++ B))[i]? = some (.int .u32 ((A.getD i 0).toNat : Int)) := by
  rw [vals_append, List.getElem?_append_left (by rw [vals_length]; exact h)]
  simp [vals, List.getElem?_eq_getElem h, List.getD_eq_getElem?_getD]
theorem vals_get' {A : List W} {i : Nat} (h : i < A.length) : (vals A)[i]? = some (.int .u32 ((A.getD i 0).toNat : Int)) := by
  have := vals_get [] h; rwa [List.append_nil] at this
theorem set_next (A : List W) (n : Nat) (x : W) : (vals (A ++ List.replicate (n + 1) 0)).set A.length (.int .u32 (x.toNat : Int)) = vals ((A ++ [x]) ++ List.replicate n 0) := by
  simp [vals, List.replicate_succ, List.set_append_right]
/-- What is left of a sum that is under way. -/
def midw (s v : S8) (i : Nat) : List W := (s.add v).l.take i ++ s.l.drop i
theorem midw_set : ∀ (s v : S8) (i : Nat), i < 8 → (vals (midw s v i)).set i (.int .u32 (((s.l.getD i 0) + (v.l.getD i 0)).toNat : Int)) = vals (midw s v (i + 1)) ∧ (vals (midw s v i))[i]? = some (.int .u32 ((s.l.getD i 0).toNat : Int)) := by
  intro s v i hi
  match i, hi with
  | 0, _ | 1, _ | 2, _ | 3, _ | 4, _ | 5, _ | 6, _ | 7, _ => exact ⟨rfl, rfl⟩
theorem set_at {A : List W} {n i : Nat} (x : W) (h : A.length = i) : setAt (vals (A ++ List.replicate (n + 1) 0)) i [.int .u32 (x.toNat : Int)] = vals ((A ++ [x]) ++ List.replicate n 0) := by
  subst h; exact set_next A n x
end Go.Sha
namespace Go.Sg
open Go.Rn Go.Sha Go.Proofs
attribute [local irreducible] Go.Rn.RunL Go.Rn.RunE Go.Rn.Asy Go.Rn.OpV Go.Rn.OpE Go.Rn.ExecE

theorem rotated_ok (x : W) (a b c : Nat) (ha : 0 < a ∧ a < 32) (hb : 0 < b ∧ b < 32) (hc : 0 < c ∧ c < 32) (w : World) :
    Rets Tryd.prog 132 [.int .u32 (x.toNat : Int), .int .i64 (a : Int), .int .i64 (b : Int), .int .i64 (c : Int)] w fun v w' => v = .int .u32 ((S3 x a b c).toNat : Int) ∧ w = w' := by
  refine RetsX.of (nt := 23) Tryd.func132 (by kernel_rfl) rfl rfl (by simp) (by simp only [argEnv]; rfl) ?_
  repeat (first | refine RunL.pureI Tryd.tOk rfl rfl rfl (by (first | exact wr_i64 (by omega) (by omega) | exact wm_i64 (by omega) | exact wq_i64 (by omega) (by omega) (by omega) | rfl)) ?_ | refine RunE.seq ?_ | refine RunE.region ?_ | refine RunL.nil ?_)
  refine RunL.call rfl rfl rfl (rotl_ok _ a ha.1 ha.2 _) ?_
  rintro _ _ ⟨rfl, rfl⟩
  repeat (first | refine RunL.pureI Tryd.tOk rfl rfl rfl (by (first | exact wr_i64 (by omega) (by omega) | exact wm_i64 (by omega) | exact wq_i64 (by omega) (by omega) (by omega) | rfl)) ?_)
  refine RunL.call rfl rfl rfl (rotl_ok _ b hb.1 hb.2 _) ?_
  rintro _ _ ⟨rfl, rfl⟩
  repeat (first | refine RunL.pureI Tryd.tOk rfl rfl rfl (by (first | with_reducible exact Go.Rn.u32_xor _ _ | with_reducible exact Go.Rn.u32_and _ _ | with_reducible exact Go.Rn.u32_or _ _ | with_reducible exact u32_add _ _ | with_reducible exact u32_shl _ _ (by decide) | with_reducible exact u32_shr _ _ (by decide) | with_reducible exact u32_of_u8 _ | exact wr_i64 (by omega) (by omega) | rfl)) ?_)
  refine RunL.call rfl rfl rfl (rotl_ok _ c hc.1 hc.2 _) ?_
  rintro _ _ ⟨rfl, rfl⟩
  repeat (first | refine RunL.pureI Tryd.tOk rfl rfl rfl (by (first | with_reducible exact Go.Rn.u32_xor _ _ | with_reducible exact Go.Rn.u32_and _ _ | with_reducible exact Go.Rn.u32_or _ _ | with_reducible exact u32_add _ _ | with_reducible exact u32_shl _ _ (by decide) | with_reducible exact u32_shr _ _ (by decide) | with_reducible exact u32_of_u8 _ | exact wr_i64 (by omega) (by omega) | rfl)) ?_ | refine RunL.nil ?_)
  exact RunE.retFn Tryd.func132 (.tmp rfl .nil) ⟨rfl, rfl⟩

set_option maxRecDepth 4000 in
set_option maxHeartbeats 2000000 in
theorem absorb_ok (s : S8) (l : List UInt8) (b bt b' o' cap : Nat) (w : World) (hb : Blk w b (vals s.l) bt) (hl : l.length = 64) (hr : Row w b' o' (bytesV l)) (hc : 64 ≤ cap) (hkT : Row w 1 0 (vals kTab)) (hb1 : b ≠ 1) :
    Rets Tryd.prog 123 [.pointer (some ⟨b, 0, none⟩), .slice (some ⟨b', o', none⟩) 64 cap] w fun v w' => v = .tuple #[] ∧ Blk w' b (vals (block s l).l) bt ∧ ExtB (· = b) w w' := by
  have hblt := hb.lt
  refine RetsX.of (nt := 144) Tryd.func123 (by kernel_rfl) rfl rfl (by simp) (by simp only [argEnv]; rfl) ?_
  repeat (first | refine RunE.seq ?_ | refine RunE.region ?_)
  refine RunL.alloc Tryd.tOk rfl rfl rfl fun B4 w1 a1 => ?_
  have hB4 := a1.eq
  have Z1 : Blk w1 B4 (vals (words l 0 ++ List.replicate (64 - 0) 0)) 179 := a1.at_
  repeat (first | refine RunL.pureI Tryd.tOk rfl rfl rfl (by (first | exact wr_i64 (by omega) (by omega) | exact wm_i64 (by omega) | exact wq_i64 (by omega) (by omega) (by omega) | rfl)) ?_ | refine RunE.seq ?_ | refine RunE.region ?_ | refine RunL.nil ?_ | refine RunE.block ?_)
  refine RunE.loop (ι := Nat) (fun j => [(0, .pointer (some ⟨b, 0, none⟩)), (1, .slice (some ⟨b', o', none⟩) 64 cap), (4, .pointer (some ⟨B4, 0, none⟩)), (14, .int .i64 (j : Int))])
    (fun j w' => j ≤ 16 ∧ Ext w w' ∧ Blk w' B4 (vals (words l j ++ List.replicate (64 - j) 0)) 179) (fun j => 16 - j) 0 (by repeat (first | exact Sub.nil _ | refine Sub.cons rfl ?_)) ⟨by omega, a1.ext, Z1⟩ ?_
  rintro j w2 ⟨hj, X2, Z2⟩ again
  repeat (first | refine RunL.pure Tryd.tOk rfl rfl rfl ?_ | refine RunE.seq ?_ | refine RunE.region ?_ | refine RunL.nil ?_)
  refine RunE.cond rfl (fun hlt => ?_) (fun hlt => ?_) <;> (first | replace hlt := of_decide_eq_true hlt | replace hlt := of_decide_eq_false hlt | replace hlt := beq_iff_eq.1 hlt | replace hlt := beq_eq_false_iff_ne.1 hlt | replace hlt := bne_iff_ne.1 hlt | replace hlt := bne_eq_false_iff_eq.1 hlt | skip)
  · repeat (first | refine RunL.pureI Tryd.tOk rfl rfl rfl (by (first | exact wr_i64 (by omega) (by omega) | exact wm_i64 (by omega) | exact wq_i64 (by omega) (by omega) (by omega) | rfl)) ?_ | refine RunL.pure Tryd.tOk rfl rfl rfl ?_ | refine RunE.seq ?_ | refine RunE.region ?_ | refine RunL.nil ?_ | refine RunE.block ?_ | refine RunE.skip ?_)
    refine RunL.val rfl rfl rfl (OpV.slice1 (lo := 4 * j) (hi := 64) Tryd.tOk rfl rfl (.some rfl (by omega)) .none (by omega) (by omega) (by omega)) ?_
    have hrow : Row w2 b' (o' + 4 * j) (bytesV [l.getD (4 * j) 0, l.getD (4 * j + 1) 0, l.getD (4 * j + 2) 0, l.getD (4 * j + 3) 0]) := by
      refine (hr.extE X2).window fun i v hv => ?_
      have get : ∀ k, k < 64 → (bytesV l)[k]? = some (.int .u8 ((l.getD k 0).toNat : Int)) := by
        intro k hk
        simp [bytesV, List.getElem?_eq_getElem (show k < l.length by omega), List.getD_eq_getElem?_getD]
      match i, hv with
      | 0, hv => rw [get _ (by omega)]; exact hv
      | 1, hv => rw [get _ (by omega)]; exact hv
      | 2, hv => rw [get _ (by omega)]; exact hv
      | 3, hv => rw [get _ (by omega)]; exact hv
    refine RunL.call rfl rfl rfl (digestWord_ok _ _ _ _ _ _ _ _ _ (by omega) (by omega) hrow) ?_
    rintro _ _ ⟨rfl, rfl⟩
    refine RunL.val rfl rfl rfl (OpV.indexA1 Tryd.tOk j rfl rfl rfl rfl (by omega)) ?_
    refine RunL.store Tryd.tOk rfl rfl rfl rfl rfl Z2 (by simp [vals_length, words_length, Value.cells]; omega) rfl fun w3 t3 => ?_
    have X3 : Ext w w3 := X2.write t3.ext (by intro i hi hlt; subst hi; omega)
    have Z3 : Blk w3 B4 (vals (words l (j + 1) ++ List.replicate (64 - (j + 1)) 0)) 179 := by
      have := t3.at_
      have e := set_next (words l j) (64 - (j + 1)) (word (l.getD (4 * j) 0) (l.getD (4 * j + 1) 0) (l.getD (4 * j + 2) 0) (l.getD (4 * j + 3) 0))
      rw [words_length, show 64 - (j + 1) + 1 = 64 - j by omega] at e
      unfold Blk
      rw [words, ← e, this]
      rw [Nat.zero_add]
      rfl
    repeat (first | refine RunL.pureI Tryd.tOk rfl rfl rfl (by (first | exact wr_i64 (by omega) (by omega) | exact wm_i64 (by omega) | exact wq_i64 (by omega) (by omega) (by omega) | rfl)) ?_ | refine RunE.region ?_ | refine RunL.nil ?_ | refine RunE.inBlock ?_)
    exact RunE.weaken (by repeat (first | exact Sub.nil _ | refine Sub.cons rfl ?_)) (again (j + 1) _ (by omega) ⟨by omega, X3, Z3⟩)
  · have hj16 : j = 16 := by omega
    subst hj16
    clear again
    repeat (first | refine RunL.pureI Tryd.tOk rfl rfl rfl (by (first | exact wr_i64 (by omega) (by omega) | exact wm_i64 (by omega) | exact wq_i64 (by omega) (by omega) (by omega) | rfl)) ?_ | refine RunE.seq ?_ | refine RunE.region ?_ | refine RunL.nil ?_ | refine RunE.block ?_ | refine RunE.exit rfl ?_)
    refine RunE.loop (ι := Nat) (fun k => [(0, .pointer (some ⟨b, 0, none⟩)), (4, .pointer (some ⟨B4, 0, none⟩)), (6, .int .i64 ((16 + k : Nat) : Int))])
      (fun k w' => k ≤ 48 ∧ Ext w w' ∧ Blk w' B4 (vals (sched (words l 16) k ++ List.replicate (48 - k) 0)) 179) (fun k => 48 - k) 0 (by repeat (first | exact Sub.nil _ | refine Sub.cons rfl ?_)) ⟨by omega, X2, Z2⟩ ?_
    rintro k w4 ⟨hk48, X4, Z4⟩ again
    have hsl : (sched (words l 16) k).length = 16 + k := by rw [sched_length, words_length]
    repeat (first | refine RunL.pureI Tryd.tOk rfl rfl rfl (by (first | exact wr_i64 (by omega) (by omega) | exact wm_i64 (by omega) | exact wq_i64 (by omega) (by omega) (by omega) | rfl)) ?_ | refine RunL.pure Tryd.tOk rfl rfl rfl ?_ | refine RunE.seq ?_ | refine RunE.region ?_ | refine RunL.nil ?_)
    refine RunE.cond rfl (fun hlt2 => ?_) (fun hlt2 => ?_) <;> (first | replace hlt2 := of_decide_eq_true hlt2 | replace hlt2 := of_decide_eq_false hlt2 | replace hlt2 := beq_iff_eq.1 hlt2 | replace hlt2 := beq_eq_false_iff_ne.1 hlt2 | replace hlt2 := bne_iff_ne.1 hlt2 | replace hlt2 := bne_eq_false_iff_eq.1 hlt2 | skip)
    · repeat (first | refine RunE.seq ?_ | refine RunE.block ?_ | refine RunE.skip ?_)
      refine RunE.draw (fun _ => False) mix ?_
      intro w5 X5
      repeat (first | refine Asy.pureI Tryd.tOk rfl rfl rfl (by (first | exact wr_i64 (by omega) (by omega) | exact wm_i64 (by omega) | exact wq_i64 (by omega) (by omega) (by omega) | rfl)) ?_)
      refine Asy.v rfl rfl rfl rfl (fun _ _ => OpV.indexA1 Tryd.tOk (k + 1) rfl rfl rfl (by omega) (by omega)) ?_
      refine Asy.v rfl rfl rfl rfl (fun _ X' => OpV.load1 Tryd.tOk rfl rfl rfl (((Z4.ext X5 id).ext X' id).row (k + 1) _ (vals_get _ (by omega)))) ?_
      repeat (first | refine Asy.pureI Tryd.tOk rfl rfl rfl (by (first | exact wr_i64 (by omega) (by omega) | exact wm_i64 (by omega) | exact wq_i64 (by omega) (by omega) (by omega) | rfl)) ?_)
      refine Asy.v rfl rfl rfl rfl (fun _ _ => OpV.indexA1 Tryd.tOk (k + 14) rfl rfl rfl (by omega) (by omega)) ?_
      refine Asy.v rfl rfl rfl rfl (fun _ X' => OpV.load1 Tryd.tOk rfl rfl rfl (((Z4.ext X5 id).ext X' id).row (k + 14) _ (vals_get _ (by omega)))) ?_
      repeat (first | refine Asy.pureI Tryd.tOk rfl rfl rfl (by (first | exact wr_i64 (by omega) (by omega) | exact wm_i64 (by omega) | exact wq_i64 (by omega) (by omega) (by omega) | rfl)) ?_)
      refine Asy.tail (by kernel_rfl) ?_
      intro w6 X6
      simp only [satsAll]
      repeat (first | refine RunL.nil ?_)
      have Y6 := X5.trans X6
      have Z6 := Z4.ext Y6 id
      have X7 := X4.trans Y6
      clear Z4 X4 X5 X6 Y6
      refine RunE.draw (fun _ => False) mix ?_
      intro w8 X8
      have Z8 := Z6.ext X8 id
      repeat (first | refine Asy.pureI Tryd.tOk rfl rfl rfl (by (first | with_reducible exact Go.Rn.u32_xor _ _ | with_reducible exact Go.Rn.u32_and _ _ | with_reducible exact Go.Rn.u32_or _ _ | with_reducible exact u32_add _ _ | with_reducible exact u32_shl _ _ (by decide) | with_reducible exact u32_shr _ _ (by decide) | with_reducible exact u32_of_u8 _ | exact wr_i64 (by omega) (by omega) | rfl)) ?_)
      refine Asy.v rfl rfl rfl rfl (fun _ _ => OpV.indexA1 Tryd.tOk k rfl rfl rfl (by omega) (by omega)) ?_
      refine Asy.v rfl rfl rfl rfl (fun _ X' => OpV.load1 Tryd.tOk rfl rfl rfl ((Z8.ext X' id).row k _ (vals_get _ (by omega)))) ?_
      repeat (first | refine Asy.pureI Tryd.tOk rfl rfl rfl (by (first | with_reducible exact Go.Rn.u32_xor _ _ | with_reducible exact Go.Rn.u32_and _ _ | with_reducible exact Go.Rn.u32_or _ _ | with_reducible exact u32_add _ _ | with_reducible exact u32_shl _ _ (by decide) | with_reducible exact u32_shr _ _ (by decide) | with_reducible exact u32_of_u8 _ | exact wr_i64 (by omega) (by omega) | rfl)) ?_)
      refine Asy.val rfl rfl rfl rfl (fun _ _ => OpE.keep (OpE.call rfl (rotl_ok _ 7 (by decide) (by decide) _))) ?_
      repeat (first | refine Asy.pureI Tryd.tOk rfl rfl rfl (by (first | with_reducible exact Go.Rn.u32_xor _ _ | with_reducible exact Go.Rn.u32_and _ _ | with_reducible exact Go.Rn.u32_or _ _ | with_reducible exact u32_add _ _ | with_reducible exact u32_shl _ _ (by decide) | with_reducible exact u32_shr _ _ (by decide) | with_reducible exact u32_of_u8 _ | exact wr_i64 (by omega) (by omega) | rfl)) ?_)
      refine Asy.val rfl rfl rfl rfl (fun _ _ => OpE.keep (OpE.call rfl (rotl_ok _ 18 (by decide) (by decide) _))) ?_
      repeat (first | refine Asy.pureI Tryd.tOk rfl rfl rfl (by (first | with_reducible exact Go.Rn.u32_xor _ _ | with_reducible exact Go.Rn.u32_and _ _ | with_reducible exact Go.Rn.u32_or _ _ | with_reducible exact u32_add _ _ | with_reducible exact u32_shl _ _ (by decide) | with_reducible exact u32_shr _ _ (by decide) | with_reducible exact u32_of_u8 _ | exact wr_i64 (by omega) (by omega) | rfl)) ?_)
      refine Asy.v rfl rfl rfl rfl (fun _ _ => OpV.indexA1 Tryd.tOk (k + 9) rfl rfl rfl (by omega) (by omega)) ?_
      refine Asy.v rfl rfl rfl rfl (fun _ X' => OpV.load1 Tryd.tOk rfl rfl rfl ((Z8.ext X' id).row (k + 9) _ (vals_get _ (by omega)))) ?_
      repeat (first | refine Asy.pureI Tryd.tOk rfl rfl rfl (by (first | with_reducible exact Go.Rn.u32_xor _ _ | with_reducible exact Go.Rn.u32_and _ _ | with_reducible exact Go.Rn.u32_or _ _ | with_reducible exact u32_add _ _ | with_reducible exact u32_shl _ _ (by decide) | with_reducible exact u32_shr _ _ (by decide) | with_reducible exact u32_of_u8 _ | exact wr_i64 (by omega) (by omega) | rfl)) ?_)
      refine Asy.val rfl rfl rfl rfl (fun _ _ => OpE.keep (OpE.call rfl (rotl_ok _ 17 (by decide) (by decide) _))) ?_
      repeat (first | refine Asy.pureI Tryd.tOk rfl rfl rfl (by (first | with_reducible exact Go.Rn.u32_xor _ _ | with_reducible exact Go.Rn.u32_and _ _ | with_reducible exact Go.Rn.u32_or _ _ | with_reducible exact u32_add _ _ | with_reducible exact u32_shl _ _ (by decide) | with_reducible exact u32_shr _ _ (by decide) | with_reducible exact u32_of_u8 _ | exact wr_i64 (by omega) (by omega) | rfl)) ?_)
      refine Asy.val rfl rfl rfl rfl (fun _ _ => OpE.keep (OpE.call rfl (rotl_ok _ 19 (by decide) (by decide) _))) ?_
      repeat (first | refine Asy.pureI Tryd.tOk rfl rfl rfl (by (first | with_reducible exact Go.Rn.u32_xor _ _ | with_reducible exact Go.Rn.u32_and _ _ | with_reducible exact Go.Rn.u32_or _ _ | with_reducible exact u32_add _ _ | with_reducible exact u32_shl _ _ (by decide) | with_reducible exact u32_shr _ _ (by decide) | with_reducible exact u32_of_u8 _ | exact wr_i64 (by omega) (by omega) | rfl)) ?_)
      refine Asy.tail (by kernel_rfl) ?_
      intro w9 X9
      simp only [satsAll]
      refine RunL.val rfl rfl rfl (OpV.indexA1 Tryd.tOk (16 + k) rfl rfl rfl rfl (by omega)) ?_
      refine RunL.store Tryd.tOk rfl rfl rfl rfl rfl (Z8.ext X9 id) (by simp [vals_length, hsl, Value.cells]; omega) rfl fun w10 t10 => ?_
      have X10 : Ext w w10 := (X7.trans (X8.trans X9)).write t10.ext (by intro i hi hlt; subst hi; omega)
      have Z10 : Blk w10 B4 (vals (sched (words l 16) (k + 1) ++ List.replicate (48 - (k + 1)) 0)) 179 := by
        have := t10.at_
        have e := set_at (n := 48 - (k + 1)) (nextW (sched (words l 16) k) k) hsl
        rw [show 48 - (k + 1) + 1 = 48 - k by omega] at e
        unfold Blk
        rw [sched, ← e, this]
        rw [Nat.zero_add]
        rfl
      repeat (first | refine RunL.pureI Tryd.tOk rfl rfl rfl (by (first | exact wr_i64 (by omega) (by omega) | exact wm_i64 (by omega) | exact wq_i64 (by omega) (by omega) (by omega) | rfl)) ?_ | refine RunE.region ?_ | refine RunL.nil ?_ | refine RunE.inBlock ?_)
      exact RunE.weaken (by repeat (first | exact Sub.nil _ | refine Sub.cons rfl ?_)) (again (k + 1) _ (by omega) ⟨by omega, X10, Z10⟩)
    · have hk : k = 48 := by omega
      subst hk
      clear again
      repeat (first | refine RunL.pure Tryd.tOk rfl rfl rfl ?_ | refine RunE.seq ?_ | refine RunE.region ?_ | refine RunE.exit rfl ?_)
      have hb4 : Row w4 1 0 (vals kTab) := hkT.extE X4
      have Zb := hb.ext X4 id
      refine RunL.val rfl rfl rfl (OpV.loadN (cs := vals s.l) Tryd.tOk rfl rfl rfl rfl Zb.row) ?_
      skip
      refine RunL.alloc Tryd.tOk rfl rfl rfl fun B9 w5 a5 => ?_
      have hB9 := a5.eq
      have X5 := X4.trans a5.ext
      have h4 := Z4.lt
      have Z5 := Z4.ext a5.ext id
      refine RunL.store (v := .agg (vals s.l).toArray) Tryd.tOk rfl rfl rfl rfl rfl (cs := List.replicate 8 (.int .u32 0)) a5.at_ rfl rfl fun w6 t6 => ?_
      have X6 : Ext w w6 := X5.write t6.ext (by intro i hi hlt; subst hi; have := X4.size; omega)
      have Z6 := Z5.ext t6.ext (by omega)
      have V6 : Blk w6 B9 (vals s.l) 171 := t6.at_
      have hwB : w.heap.size ≤ B9 := by have := X4.size; omega
      clear a5 t6 Z5 X5 Z4 X4 Zb
      repeat (first | refine RunL.pureI Tryd.tOk rfl rfl rfl (by (first | exact wr_i64 (by omega) (by omega) | exact wm_i64 (by omega) | exact wq_i64 (by omega) (by omega) (by omega) | rfl)) ?_ | refine RunE.seq ?_ | refine RunE.region ?_ | refine RunL.nil ?_ | refine RunE.block ?_)
      generalize hws : sched (words l 16) 48 = ws
      rw [hws] at Z6 hsl
      refine RunE.loop (ι := Nat) (fun t => [(0, .pointer (some ⟨b, 0, none⟩)), (4, .pointer (some ⟨B4, 0, none⟩)), (9, .pointer (some ⟨B9, 0, none⟩)), (69, .int .i64 (t : Int))])
        (fun t w' => t ≤ 64 ∧ Ext w w' ∧ Blk w' B4 (vals (ws ++ [])) 179 ∧ Blk w' B9 (vals (rnds ws s t).l) 171) (fun t => 64 - t) 0 (by repeat (first | exact Sub.nil _ | refine Sub.cons rfl ?_)) ⟨by omega, X6, Z6, V6⟩ ?_
      rintro t w7 ⟨ht, X7, Z7, V7⟩ again
      repeat (first | refine RunL.pure Tryd.tOk rfl rfl rfl ?_ | refine RunE.seq ?_ | refine RunE.region ?_ | refine RunL.nil ?_)
      refine RunE.cond rfl (fun hlt3 => ?_) (fun hlt3 => ?_) <;> (first | replace hlt3 := of_decide_eq_true hlt3 | replace hlt3 := of_decide_eq_false hlt3 | replace hlt3 := beq_iff_eq.1 hlt3 | replace hlt3 := beq_eq_false_iff_ne.1 hlt3 | replace hlt3 := bne_iff_ne.1 hlt3 | replace hlt3 := bne_eq_false_iff_eq.1 hlt3 | skip)
      · have ht' : t < kTab.length := by simp [kTab]; omega
        repeat (first | refine RunL.pureI Tryd.tOk rfl rfl rfl (by (first | exact wr_i64 (by omega) (by omega) | exact wm_i64 (by omega) | exact wq_i64 (by omega) (by omega) (by omega) | rfl)) ?_ | refine RunE.seq ?_ | refine RunE.region ?_ | refine RunL.nil ?_ | refine RunE.block ?_ | refine RunE.skip ?_)
        refine RunE.draw (fun _ => False) mix ?_
        intro w8 X8
        have Z8 := Z7.ext X8 id
        have V8 := V7.ext X8 id
        have K8 : Row w8 1 0 (vals kTab) := hkT.extE (X7.trans X8)
        repeat (first | refine Asy.v rfl rfl rfl rfl (fun _ X_ => OpV.indexAK Tryd.tOk rfl rfl rfl rfl) ?_ | refine Asy.v rfl rfl rfl rfl (fun _ X_ => OpV.load1 Tryd.tOk rfl rfl rfl (Blk.cell (V8.ext X_ id) rfl)) ?_)
        refine Asy.val rfl rfl rfl rfl (fun _ _ => OpE.keep (OpE.call rfl (rotated_ok _ 6 11 25 (by decide) (by decide) (by decide) _))) ?_
        repeat (first | refine Asy.v rfl rfl rfl rfl (fun _ X_ => OpV.xor32 rfl rfl) ?_ | refine Asy.v rfl rfl rfl rfl (fun _ X_ => OpV.and32 rfl rfl) ?_ | refine Asy.v rfl rfl rfl rfl (fun _ X_ => OpV.add32 rfl rfl) ?_ | refine Asy.pureI Tryd.tOk rfl rfl rfl (by (first | exact wr_i64 (by omega) (by omega) | exact wm_i64 (by omega) | exact wq_i64 (by omega) (by omega) (by omega) | rfl)) ?_ | refine Asy.v rfl rfl rfl rfl (fun _ X_ => OpV.indexAK Tryd.tOk rfl rfl rfl rfl) ?_ | refine Asy.v rfl rfl rfl rfl (fun _ X_ => OpV.load1 Tryd.tOk rfl rfl rfl (Blk.cell (V8.ext X_ id) rfl)) ?_)
        refine Asy.v rfl rfl rfl rfl (fun _ _ => OpV.indexA1 Tryd.tOk t rfl rfl rfl rfl (by omega)) ?_
        refine Asy.v rfl rfl rfl rfl (fun _ X' => OpV.load1 Tryd.tOk rfl rfl rfl (K8.extE X' t _ (vals_get' ht'))) ?_
        repeat (first | refine Asy.v rfl rfl rfl rfl (fun _ X_ => OpV.add32 rfl rfl) ?_ | refine Asy.pureI Tryd.tOk rfl rfl rfl (by (first | exact wr_i64 (by omega) (by omega) | exact wm_i64 (by omega) | exact wq_i64 (by omega) (by omega) (by omega) | rfl)) ?_)
        refine Asy.v rfl rfl rfl rfl (fun _ _ => OpV.indexA1 Tryd.tOk t rfl rfl rfl rfl (by omega)) ?_
        refine Asy.v rfl rfl rfl rfl (fun _ X' => OpV.load1 Tryd.tOk rfl rfl rfl ((Z8.ext X' id).row t _ (vals_get _ (by omega)))) ?_
        repeat (first | refine Asy.v rfl rfl rfl rfl (fun _ X_ => OpV.add32 rfl rfl) ?_ | refine Asy.pureI Tryd.tOk rfl rfl rfl (by (first | exact wr_i64 (by omega) (by omega) | exact wm_i64 (by omega) | exact wq_i64 (by omega) (by omega) (by omega) | rfl)) ?_)
        refine Asy.tail (by kernel_rfl) ?_
        intro w9 X9
        simp only [satsAll]
        repeat (first | refine RunE.seq ?_ | refine RunL.nil ?_)
        have Y9 := X8.trans X9
        have Z9 := Z7.ext Y9 id
        have V9 := V7.ext Y9 id
        have Q9 := X7.trans Y9
        clear Z7 V7 X7 Y9 X8 X9 Z8 V8 K8
        refine RunE.draw (fun _ => False) mix ?_
        intro u0 E0
        have U0 := V9.ext E0 id
        repeat (first | refine Asy.v rfl rfl rfl rfl (fun _ X_ => OpV.indexAK Tryd.tOk rfl rfl rfl rfl) ?_ | refine Asy.v rfl rfl rfl rfl (fun _ X_ => OpV.load1 Tryd.tOk rfl rfl rfl (Blk.cell (U0.ext X_ id) rfl)) ?_)
        refine Asy.val rfl rfl rfl rfl (fun _ _ => OpE.keep (OpE.call rfl (rotated_ok _ 2 13 22 (by decide) (by decide) (by decide) _))) ?_
        repeat (first | refine Asy.v rfl rfl rfl rfl (fun _ X_ => OpV.and32 rfl rfl) ?_ | refine Asy.v rfl rfl rfl rfl (fun _ X_ => OpV.or32 rfl rfl) ?_ | refine Asy.v rfl rfl rfl rfl (fun _ X_ => OpV.add32 rfl rfl) ?_ | refine Asy.pureI Tryd.tOk rfl rfl rfl (by (first | exact wr_i64 (by omega) (by omega) | exact wm_i64 (by omega) | exact wq_i64 (by omega) (by omega) (by omega) | rfl)) ?_ | refine Asy.v rfl rfl rfl rfl (fun _ X_ => OpV.indexAK Tryd.tOk rfl rfl rfl rfl) ?_ | refine Asy.v rfl rfl rfl rfl (fun _ X_ => OpV.load1 Tryd.tOk rfl rfl rfl (Blk.cell (U0.ext X_ id) rfl)) ?_)
        refine Asy.tail (by kernel_rfl) ?_
        intro u1 E1
        simp only [satsAll]
        repeat (first | refine RunE.seq ?_ | refine RunL.nil ?_)
        have F1 := E0.trans E1
        have Z1 := Z9.ext F1 id
        have V1 := V9.ext F1 id
        have Q1 := Q9.trans F1
        clear Z9 V9 Q9 E0 E1 F1 U0
        refine RunE.draw (fun _ => False) mix ?_
        intro u2 E2
        refine Asy.v rfl rfl rfl rfl (fun _ _ => OpV.sliceA1 (lo := 1) (hi := 8) Tryd.tOk rfl rfl (.some rfl rfl) .none (by decide) (by decide) (by decide)) ?_
        refine Asy.v rfl rfl rfl rfl (fun _ _ => OpV.sliceA0 (hi := 7) Tryd.tOk rfl rfl .none (.some rfl rfl) (by decide)) ?_
        refine Asy.tail (by kernel_rfl) ?_
        intro u3 E3
        simp only [satsAll]
        have F3 := E2.trans E3
        have Z3 := Z1.ext F3 id
        have V3 := V1.ext F3 id
        have Q3 := Q1.trans F3
        clear Z1 V1 Q1 E2 E3 F3
        refine RunL.ex rfl rfl rfl (OpE.copy (vs := (vals (rnds ws s t).l).take 7) Tryd.tOk rfl rfl rfl V3 (V3.row.take 7) rfl (Nat.le_of_ble_eq_true rfl) rfl) ?_
        rintro _ u4 ⟨rfl, t4⟩
        have Z4 := Z3.ext t4.ext (by omega)
        have V4 : Blk u4 B9 (vals [(rnds ws s t).a, (rnds ws s t).a, (rnds ws s t).b, (rnds ws s t).c, (rnds ws s t).d, (rnds ws s t).e, (rnds ws s t).f, (rnds ws s t).g]) 171 := t4.at_
        have Q4 : Ext w u4 := Q3.write t4.ext (by intro i hi hlt; subst hi; omega)
        clear Z3 V3 Q3 t4
        repeat (first | refine RunE.seq ?_ | refine RunE.region ?_ | refine RunL.nil ?_)
        repeat (first | refine RunL.val rfl rfl rfl (OpV.add32 rfl rfl) ?_ | refine RunL.pureI Tryd.tOk rfl rfl rfl (by (first | exact wr_i64 (by omega) (by omega) | exact wm_i64 (by omega) | exact wq_i64 (by omega) (by omega) (by omega) | rfl)) ?_ | refine RunL.val rfl rfl rfl (OpV.indexAK Tryd.tOk rfl rfl rfl rfl) ?_ | refine RunL.val rfl rfl rfl (OpV.load1 Tryd.tOk rfl rfl rfl (Blk.cell V4 rfl)) ?_)
        refine RunL.store Tryd.tOk rfl rfl rfl rfl rfl V4 rfl rfl fun u5 t5 => ?_
        have V5 := t5.at_
        have Z5 := Z4.ext t5.ext (by omega)
        have Q5 : Ext w u5 := Q4.write t5.ext (by intro i hi hlt; subst hi; omega)
        clear V4 Z4 Q4 t5
        repeat (first | refine RunL.val rfl rfl rfl (OpV.add32 rfl rfl) ?_ | refine RunL.pureI Tryd.tOk rfl rfl rfl (by (first | exact wr_i64 (by omega) (by omega) | exact wm_i64 (by omega) | exact wq_i64 (by omega) (by omega) (by omega) | rfl)) ?_ | refine RunL.val rfl rfl rfl (OpV.indexAK Tryd.tOk rfl rfl rfl rfl) ?_ | refine RunE.region ?_ | refine RunL.nil ?_)
        refine RunL.store Tryd.tOk rfl rfl rfl rfl rfl V5 rfl rfl fun u6 t6 => ?_
        have V6 := t6.at_
        have Z6 := Z5.ext t6.ext (by omega)
        have Q6 : Ext w u6 := Q5.write t6.ext (by intro i hi hlt; subst hi; omega)
        clear V5 Z5 Q5 t6
        repeat (first | refine RunL.pureI Tryd.tOk rfl rfl rfl (by (first | exact wr_i64 (by omega) (by omega) | exact wm_i64 (by omega) | exact wq_i64 (by omega) (by omega) (by omega) | rfl)) ?_ | refine RunE.region ?_ | refine RunL.nil ?_ | refine RunE.inBlock ?_)
        refine RunE.weaken (by repeat (first | exact Sub.nil _ | refine Sub.cons rfl ?_)) (again (t + 1) _ (by omega) ⟨by omega, Q6, Z6, ?_⟩)
        have e : vals (rnds ws s (t + 1)).l = vals (rnd (rnds ws s t) (kTab.getD t 0) (ws.getD t 0)).l := rfl
        rw [e]
        rw [ch_eq, maj_eq] at V6
        exact V6
      · have ht64 : t = 64 := by omega
        subst ht64
        clear again
        repeat (first | refine RunL.pureI Tryd.tOk rfl rfl rfl (by (first | exact wr_i64 (by omega) (by omega) | exact wm_i64 (by omega) | exact wq_i64 (by omega) (by omega) (by omega) | rfl)) ?_ | refine RunE.seq ?_ | refine RunE.region ?_ | refine RunL.nil ?_ | refine RunE.block ?_ | refine RunE.exit rfl ?_)
        have hvl : (vals (rnds ws s 64).l).length = 8 := rfl
        have hbl : block s l = s.add (rnds ws s 64) := by rw [block, hws]
        generalize rnds ws s 64 = v at V7 hbl hvl
        refine RunE.loop (ι := Nat) (fun i => [(0, .pointer (some ⟨b, 0, none⟩)), (9, .pointer (some ⟨B9, 0, none⟩)), (129, .int .i64 (i : Int))])
          (fun i w' => i ≤ 8 ∧ ExtB (· = b) w w' ∧ Blk w' b (vals (midw s v i)) bt ∧ Blk w' B9 (vals v.l) 171) (fun i => 8 - i) 0 (by repeat (first | exact Sub.nil _ | refine Sub.cons rfl ?_)) ⟨by omega, .of_ext X7, hb.ext X7 id, V7⟩ ?_
        clear V7 X7 Z7
        rintro i u0 ⟨hi, E0, P0, V0⟩ again
        repeat (first | refine RunL.pure Tryd.tOk rfl rfl rfl ?_ | refine RunE.seq ?_ | refine RunE.region ?_ | refine RunL.nil ?_)
        refine RunE.cond rfl (fun hlt4 => ?_) (fun hlt4 => ?_) <;> (first | replace hlt4 := of_decide_eq_true hlt4 | replace hlt4 := of_decide_eq_false hlt4 | replace hlt4 := beq_iff_eq.1 hlt4 | replace hlt4 := beq_eq_false_iff_ne.1 hlt4 | replace hlt4 := bne_iff_ne.1 hlt4 | replace hlt4 := bne_eq_false_iff_eq.1 hlt4 | skip)
        · repeat (first | refine RunL.pureI Tryd.tOk rfl rfl rfl (by (first | exact wr_i64 (by omega) (by omega) | exact wm_i64 (by omega) | exact wq_i64 (by omega) (by omega) (by omega) | rfl)) ?_ | refine RunE.seq ?_ | refine RunE.region ?_ | refine RunL.nil ?_ | refine RunE.block ?_ | refine RunE.skip ?_)
          refine RunE.draw (fun _ => False) mix ?_
          intro u1 E1
          have P1 := P0.ext E1 id
          have V1 := V0.ext E1 id
          repeat (first | refine Asy.pureI Tryd.tOk rfl rfl rfl (by (first | exact wr_i64 (by omega) (by omega) | exact wm_i64 (by omega) | exact wq_i64 (by omega) (by omega) (by omega) | rfl)) ?_ | refine Asy.pure Tryd.tOk rfl rfl rfl ?_)
          refine Asy.v rfl rfl rfl rfl (fun _ _ => OpV.indexA1 Tryd.tOk i rfl rfl rfl rfl (by omega)) ?_
          refine Asy.v rfl rfl rfl rfl (fun _ X' => OpV.load1 Tryd.tOk rfl rfl rfl ((P1.ext X' id).row i _ (midw_set s v i (by omega)).2)) ?_
          repeat (first | refine Asy.pureI Tryd.tOk rfl rfl rfl (by (first | exact wr_i64 (by omega) (by omega) | exact wm_i64 (by omega) | exact wq_i64 (by omega) (by omega) (by omega) | rfl)) ?_)
          refine Asy.v rfl rfl rfl rfl (fun _ _ => OpV.indexA1 Tryd.tOk i rfl rfl rfl rfl (by omega)) ?_
          refine Asy.v rfl rfl rfl rfl (fun _ X' => OpV.load1 Tryd.tOk rfl rfl rfl ((V1.ext X' id).row i _ (vals_get' (by show i < 8; omega)))) ?_
          repeat (first | refine Asy.v rfl rfl rfl rfl (fun _ X_ => OpV.add32 rfl rfl) ?_ | refine Asy.pure Tryd.tOk rfl rfl rfl ?_)
          refine Asy.tail (by kernel_rfl) ?_
          intro u2 E2
          simp only [satsAll]
          have P2 := P1.ext E2 id
          have V2 := V1.ext E2 id
          have Q2 := E0.trans (.of_ext (E1.trans E2))
          skip
          refine RunL.val rfl rfl rfl (OpV.indexA1 Tryd.tOk i rfl rfl rfl rfl (by omega)) ?_
          refine RunL.store Tryd.tOk rfl rfl rfl rfl rfl P2 (by simp [vals_length, midw, S8.l, S8.add, Value.cells]; omega) rfl fun u3 t3 => ?_
          have Q3 := Q2.write t3.ext (by intro i hi _; exact hi)
          have V3 := V2.ext t3.ext (by omega)
          have P3 : Blk u3 b (vals (midw s v (i + 1))) bt := by
            have := t3.at_
            rw [← (midw_set s v i (by omega)).1]
            rw [Nat.zero_add] at this
            exact this
          repeat (first | refine RunL.pureI Tryd.tOk rfl rfl rfl (by (first | exact wr_i64 (by omega) (by omega) | exact wm_i64 (by omega) | exact wq_i64 (by omega) (by omega) (by omega) | rfl)) ?_ | refine RunE.region ?_ | refine RunL.nil ?_ | refine RunE.inBlock ?_)
          exact RunE.weaken (by repeat (first | exact Sub.nil _ | refine Sub.cons rfl ?_)) (again (i + 1) _ (by omega) ⟨by omega, Q3, P3, V3⟩)
        · have hi8 : i = 8 := by omega
          subst hi8
          repeat (first | refine RunE.exit rfl ?_)
          refine RunE.fallFn Tryd.func123 .nil ⟨rfl, ?_, E0⟩
          rw [hbl]; exact P0
end Go.Sg
end
section
/- What SHA-256 is: padding, blocks, the digest. Plain, no program. -/
namespace Go.Sha
open Go.Rn

/-- The bytes of a number, the greatest first. -/
def be : Nat → Nat → List UInt8
  | 0, _ => []
  | i + 1, n => UInt8.ofNat (n / 2 ^ (8 * i)) :: be i n
theorem be_length (i n : Nat) : (be i n).length = i := by
  induction i with
  | zero => rfl
  | succ i ih => simp [be, ih]
theorem be_get : ∀ (i n j : Nat), j < i → (be i n)[j]? = some (UInt8.ofNat (n / 2 ^ (8 * (i - 1 - j))))
  | 0, n, j, h => by omega
  | i + 1, n, 0, _ => by simp [be]
  | i + 1, n, j + 1, h => by
    simp only [be, List.getElem?_cons_succ]
    rw [be_get i n j (by omega)]
    congr 4; omega
def dig (s : S8) : List UInt8 := s.l.flatMap fun x => be 4 x.toNat
theorem dig_length (s : S8) : (dig s).length = 32 := rfl
theorem flat_length : ∀ L : List W, (L.flatMap fun x => be 4 x.toNat).length = 4 * L.length
  | [] => rfl
  | x :: r => by rw [List.flatMap_cons, List.length_append, be_length, flat_length r, List.length_cons]; omega
def run (s : S8) (l : List UInt8) : Nat → S8
  | 0 => s
  | k + 1 => block (run s l k) ((l.drop (64 * k)).take 64)
def padz (n : Nat) : Nat := (119 - n % 64) % 64
def pad (l : List UInt8) : List UInt8 := l ++ 128 :: (List.replicate (padz l.length) 0 ++ be 8 (8 * l.length))
def sha (l : List UInt8) : List UInt8 := dig (run init8 (pad l) ((pad l).length / 64))
theorem sha_length (l : List UInt8) : (sha l).length = 32 := rfl
def tagged (tag l : List UInt8) : List UInt8 := sha (sha tag ++ l)
theorem tagged_length (t l : List UInt8) : (tagged t l).length = 32 := rfl

theorem pad_length (l : List UInt8) : (pad l).length = l.length + 9 + padz l.length := by
  simp [pad, be_length]; omega
theorem pad_length64 (l : List UInt8) : (pad l).length = 64 * ((pad l).length / 64) := by
  rw [pad_length]; unfold padz; omega
theorem run_congr (s : S8) (l l' : List UInt8) : ∀ n, (∀ k, k < n → (l.drop (64 * k)).take 64 = (l'.drop (64 * k)).take 64) → run s l n = run s l' n
  | 0, _ => rfl
  | n + 1, h => by
    unfold run
    rw [run_congr s l l' n (fun k hk => h k (by omega)), h n (by omega)]
/-- The blocks of l itself. -/
theorem run_pad (s : S8) (l : List UInt8) (n : Nat) (h : 64 * n ≤ l.length) : run s (pad l) n = run s l n := by
  refine run_congr s _ _ n fun k hk => ?_
  unfold pad
  rw [List.drop_append_of_le_length (by omega), List.take_append_of_le_length (by rw [List.length_drop]; omega)]
/-- What the last blocks are made of. -/
def tailOf (l : List UInt8) : List UInt8 := (pad l).drop (64 * (l.length / 64))
theorem tailOf_eq (l : List UInt8) : tailOf l = l.drop (64 * (l.length / 64)) ++ 128 :: (List.replicate (padz l.length) 0 ++ be 8 (8 * l.length)) := by
  unfold tailOf pad
  rw [List.drop_append_of_le_length (by omega)]
theorem tailOf_length (l : List UInt8) : (tailOf l).length = if l.length % 64 > 55 then 128 else 64 := by
  unfold tailOf
  rw [List.length_drop, pad_length]; unfold padz; split <;> omega
theorem pad_blocks (l : List UInt8) : (pad l).length / 64 = l.length / 64 + (tailOf l).length / 64 := by
  rw [tailOf_length, pad_length]; unfold padz; split <;> omega
theorem tail_block (l : List UInt8) (j : Nat) : ((tailOf l).drop (64 * j)).take 64 = ((pad l).drop (64 * (l.length / 64 + j))).take 64 := by
  unfold tailOf; rw [List.drop_drop]; congr 2; omega
theorem tail_block_len (l : List UInt8) (k j m : Nat) (hk : k = l.length / 64) (hm : m = (tailOf l).length) (h : 64 * j + 64 ≤ m) : 64 = (((pad l).drop (64 * (k + j))).take 64).length := by
  rw [hk, ← tail_block, List.length_take, List.length_drop]; omega
theorem sha_eq (l : List UInt8) : sha l = dig (run init8 (pad l) (l.length / 64 + (tailOf l).length / 64)) := by rw [sha, pad_blocks]

/-! ### Cells -/
theorem bytesV_append (a b : List UInt8) : bytesV (a ++ b) = bytesV a ++ bytesV b := by simp [bytesV]
theorem bytesV_replicate (n : Nat) : List.replicate n (Value.int .u8 0) = bytesV (List.replicate n 0) := by simp [bytesV]
theorem bytesV_drop (l : List UInt8) (n : Nat) : (bytesV l).drop n = bytesV (l.drop n) := by simp [bytesV]
theorem bytesV_take (l : List UInt8) (n : Nat) : (bytesV l).take n = bytesV (l.take n) := by simp [bytesV]
theorem bytesV_get {l : List UInt8} {i : Nat} (h : i < l.length) : (bytesV l)[i]? = some (.int .u8 ((l.getD i 0).toNat : Int)) := by
  simp [bytesV, List.getElem?_eq_getElem h, List.getD_eq_getElem?_getD]
theorem setAt_self (cs : List Value) : setAt cs 0 cs = cs := by
  have := setAt_mid [] cs [] cs rfl
  simpa using this
theorem setAt_all (cs ds : List Value) (h : ds.length = cs.length) : setAt cs 0 ds = ds := by
  have := setAt_mid [] cs [] ds h
  simpa using this
theorem setAt_bytes (X Y Z V : List UInt8) (n : Nat) (hn : X.length = n) (h : V.length = Y.length) : setAt (bytesV (X ++ Y ++ Z)) n (bytesV V) = bytesV (X ++ V ++ Z) := by
  have := setAt_mid (bytesV X) (bytesV Y) (bytesV Z) (bytesV V) (by simpa [bytesV_length] using h)
  rw [bytesV_length, hn] at this
  simpa [bytesV_append] using this
theorem set_byte (X Z : List UInt8) (y b : UInt8) (n : Nat) (hn : X.length = n) : setAt (bytesV (X ++ y :: Z)) n [.int .u8 (b.toNat : Int)] = bytesV (X ++ b :: Z) := by
  have := setAt_bytes X [y] Z [b] n hn rfl
  simpa [bytesV] using this
end Go.Sha
end
