/- Parts of this project: Map, Cmp, MapR, Open, Flat, MapF, Wri, Iter, IterP, SortB, Chk, AuB, MapE, AuM, Whole. -/
import Derived.Test.YtlchncheagigpaaGreatDoorTu02
import Derived.ChangeKeysEq
import Derived.Laws.StructEq
import Derived.Maps.RangeRun
import Derived.ChangeArms
import Derived.Deep.Slices
import Derived.Shelf.SlSortCmp.NoneTotal
set_option maxHeartbeats 32000000
set_option linter.unusedSimpArgs false
set_option linter.unusedVariables false
set_option linter.unusedSectionVars false
section
set_option maxRecDepth 4000
namespace Go.Rn
open Go.RowKit
def setM {α β : Type} [DecidableEq α] (k : α) (v : β) : List (α × β) → List (α × β)
 | [] => [(k, v)]
 | (j, u) :: r => if k = j then (k, v) :: r else (j, u) :: setM k v r
def getM {α β : Type} [DecidableEq α] (k : α) : List (α × β) → Option β
 | [] => none
 | (j, u) :: r => if k = j then some u else getM k r
section
variable {α β : Type} [DecidableEq α]
theorem getM_set (k j : α) (v : β) : ∀ m, getM k (setM j v m) = if k = j then some v else getM k m
 | [] => by simp [setM, getM]
 | (i, u) :: r => by
  simp only [setM]
  by_cases h : j = i
  ·subst h
   simp only [if_true, getM]
   by_cases h2 : k = j <;> simp [h2]
  ·simp only [if_neg h, getM, getM_set k j v r]
   by_cases h2 : k = i
   ·subst h2; simp [Ne.symm h]
   ·simp [h2]
theorem getM_isSome {k : α} : ∀ {m : List (α × β)}, (getM k m).isSome = true ↔ k ∈ m.map (·.1)
 | [] => by simp [getM]
 | (j, u) :: r => by
  simp only [getM, List.map_cons, List.mem_cons]
  by_cases h : k = j
  ·simp [h]
  ·simp [h, getM_isSome (m := r)]
theorem setM_keys (k : α) (v : β) : ∀ (m : List (α × β)), (setM k v m).map (·.1) = if k ∈ m.map (·.1) then m.map (·.1) else m.map (·.1) ++ [k]
 | [] => by simp [setM]
 | (j, u) :: r => by
  simp only [setM]
  by_cases h : k = j
  ·subst h; simp
  ·rw [if_neg h, List.map_cons, setM_keys k v r]
   by_cases hm : k ∈ r.map (·.1)
   ·rw [if_pos hm, if_pos (show k ∈ ((j, u) :: r).map (·.1) from List.mem_cons_of_mem _ hm)]; rfl
   ·rw [if_neg hm, if_neg (show ¬ k ∈ ((j, u) :: r).map (·.1) by simp only [List.map_cons, List.mem_cons, not_or]; exact ⟨h, hm⟩)]; rfl
theorem setM_map {γ : Type} (f : β → γ) (k : α) (v : β) : ∀ (m : List (α × β)), setM k (f v) (m.map fun x => (x.1, f x.2)) = (setM k v m).map fun x => (x.1, f x.2)
 | [] => rfl
 | (j, u) :: r => by
  simp only [setM, List.map_cons]
  by_cases h : k = j
  ·simp [h]
  ·simp only [if_neg h, List.map_cons, setM_map f k v r]
theorem getM_map {γ : Type} (f : β → γ) (k : α) : ∀ (m : List (α × β)), getM k (m.map fun x => (x.1, f x.2)) = (getM k m).map f
 | [] => rfl
 | (j, u) :: r => by
  simp only [getM, List.map_cons]
  by_cases h : k = j
  ·simp [h]
  ·simp only [if_neg h, getM_map f k r]
theorem setM_nodup {k : α} {v : β} {m : List (α × β)} (h : (m.map (·.1)).Nodup) : ((setM k v m).map (·.1)).Nodup := by
 rw [setM_keys]
 split
 ·exact h
 ·rename_i hk
  rw [List.nodup_append]
  refine ⟨h, by simp, fun a ha b hb e => ?_⟩
  simp only [List.mem_singleton] at hb
  subst hb; subst e; exact hk ha
def entsOk (kv : α → Value) (good : α → Prop) (es : List MapEntry) (m : List (α × Value)) : Prop := es.map (fun e => (e.key, e.val)) = m.map (fun x => (kv x.1, x.2)) ∧ ∀ x ∈ m, good x.1
def bornOk (es : List MapEntry) (c : Nat) : Prop := (es.map (·.born)).Nodup ∧ ∀ e ∈ es, e.born < c
def MapK (kv : α → Value) (good : α → Prop) (w : World) (r : Nat) (m : List (α × Value)) : Prop := ∃ (es : Array MapEntry) (clock : Nat), w.heap[r]? = some (.map es clock) ∧ entsOk kv good es.toList m ∧ bornOk es.toList clock
theorem MapK.lt {kv : α → Value} {good : α → Prop} {w : World} {r : Nat} {m : List (α × Value)} (h : MapK kv good w r m) : r < w.heap.size := by
 obtain ⟨es, c, h, -⟩ := h; exact lt_of_get h
theorem MapK.ext {kv : α → Value} {good : α → Prop} {S : Nat → Prop} {w w' : World} {r : Nat} {m : List (α × Value)} (h : MapK kv good w r m) (e : ExtB S w w') (hn : ¬ S r) : MapK kv good w' r m := by
 obtain ⟨es, c, h1, h2⟩ := h
 exact ⟨es, c, by rw [e.block r (lt_of_get h1) hn]; exact h1, h2⟩
def Found (kv : α → Value) (good : α → Prop) (k : α) (es : List MapEntry) (m : List (α × Value)) (i : Nat) : Option (Nat × Value) → Prop
 | none => getM k m = none ∧ ∀ v, setM k v m = m ++ [(k, v)]
 | some (j, u) => getM k m = some u ∧ i ≤ j ∧ (∃ e, es[j - i]? = some e ∧ e.key = kv k) ∧ ∀ v, entsOk kv good (es.modify (j - i) fun e => { e with key := kv k, val := v }) (setM k v m)
structure KeyOk (P : Program) (kt : TypeId) (kv : α → Value) (good : α → Prop) : Prop where
 find : ∀ (w : World) (k : α) (es : List MapEntry) (m : List (α × Value)), good k → entsOk kv good es m → ∃ r, (Instr.findKey kt (kv k) es).run P w = .ok r w ∧ Found kv good k es m 0 r
 check : ∀ (w : World) (k : α) (b : Bool), good k → (Instr.checkKey b 10000 kt (kv k)).run P w = .ok () w
 same : ∀ k : α, good k → Instr.sameBits 10000 (kv k) (kv k) = true
theorem found_nil {kv : α → Value} {good : α → Prop} (k : α) {m : List (α × Value)} (i : Nat) (h : entsOk kv good [] m) : Found kv good k [] m i none := by
 have : m = [] := by cases m with | nil => rfl | cons => simp [entsOk] at h
 subst this
 exact ⟨rfl, fun v => rfl⟩
theorem found_cons {kv : α → Value} {good : α → Prop} {k : α} {e : MapEntry} {es : List MapEntry} {m : List (α × Value)} {i : Nat} (hg : good k) (h : entsOk kv good (e :: es) m) :
  ∃ j u m', m = (j, u) :: m' ∧ e.key = kv j ∧ good j ∧ entsOk kv good es m' ∧ (k = j → Found kv good k (e :: es) m i (some (i, e.val))) ∧ (k ≠ j → ∀ r, Found kv good k es m' (i + 1) r → Found kv good k (e :: es) m i r) := by
 obtain ⟨⟨j, u⟩, m', rfl⟩ : ∃ x m', m = x :: m' := by cases m with | nil => simp [entsOk] at h | cons x m' => exact ⟨x, m', rfl⟩
 obtain ⟨h, hgs⟩ := h
 simp only [List.map_cons, List.cons.injEq, Prod.mk.injEq] at h
 obtain ⟨⟨hk, hv⟩, hr⟩ := h
 have hgm : ∀ x ∈ m', good x.1 := fun x hx => hgs x (List.mem_cons_of_mem _ hx)
 refine ⟨j, u, m', rfl, hk, hgs _ List.mem_cons_self, ⟨hr, hgm⟩, fun hkj => ?_, fun hkj r h2 => ?_⟩
 ·subst hkj
  simp only [Found]
  refine ⟨by simp [getM, hv], Nat.le_refl i, ⟨e, by simp, hk⟩, fun v => ?_⟩
  refine ⟨by simp [setM, hr], fun x hx => ?_⟩
  simp only [setM, if_true] at hx
  rcases List.mem_cons.1 hx with rfl | hx
  ·exact hg
  ·exact hgm x hx
 ·match r, h2 with
  | none, h2 => exact ⟨by simp [getM, hkj, h2.1], fun v => by simp [setM, hkj, h2.2]⟩
  | some (q, u'), h2 =>
   simp only [Found] at h2 ⊢
   obtain ⟨h3, h4, ⟨e', h5, h6⟩, h7⟩ := h2
   have hq : q - i = (q - (i + 1)) + 1 := by omega
   refine ⟨by simp [getM, hkj, h3], by omega, ⟨e', by rw [hq]; simpa using h5, h6⟩, fun v => ?_⟩
   rw [hq]
   obtain ⟨h8, h9⟩ := h7 v
   refine ⟨by simp [setM, hkj, h8, hk, hv], fun x hx => ?_⟩
   simp only [setM, if_neg hkj] at hx
   rcases List.mem_cons.1 hx with rfl | hx
   ·exact hgs _ List.mem_cons_self
   ·exact h9 x hx
end
theorem findNow_ok {kd : IntKind} (k : Int) : ∀ (es : List MapEntry) (m : List (Int × Value)) (i : Nat), entsOk (Value.int kd) (fun _ => True) es m →
  ∃ r, Instr.findNow (.int kd) (.int kd k) es i = some r ∧ Found (Value.int kd) (fun _ => True) k es m i r
 | [], m, i, h => ⟨none, rfl, found_nil k i h⟩
 | e :: es, m, i, h => by
  obtain ⟨j, u, m', -, hk, -, hr, h1, h2⟩ := found_cons (k := k) (i := i) trivial h
  simp only [Instr.findNow, hk, Instr.sameNow, if_true]
  by_cases hkj : k = j
  ·exact ⟨some (i, e.val), by simp [hkj], h1 hkj⟩
  ·have hb : (k == j) = false := by simpa using hkj
   rw [hb]
   obtain ⟨r, h3, h4⟩ := findNow_ok k es m' (i + 1) hr
   exact ⟨r, h3, h2 hkj r h4⟩
theorem keyOk_int {P : Program} {kt : TypeId} {kd : IntKind} (hk : P.underlying kt = some (.int kd)) : KeyOk P kt (Value.int kd) fun _ => True where
 find w k es m _ h := by
  obtain ⟨r, h1, h2⟩ := findNow_ok k es m 0 h
  refine ⟨r, ?_, h2⟩
  unfold Instr.findKey
  rw [run_bind _ _ (run_underlying hk), h1]; rfl
 check w k b _ := by
  show (Instr.checkKey b (9999 + 1) kt _).run P w = _
  unfold Instr.checkKey
  rw [run_bind _ _ (run_underlying hk)]
  rfl
 same k _ := by simp [Instr.sameBits]
section
variable {P : Program} {w : World}
variable {env : Env} {dst : Option Tmp} {ty : TypeId} {pos : String} {after : Array Edge} {guard : Option (Nat × Bool)}
end
section
variable {α : Type} [DecidableEq α] {kv : α → Value} {good : α → Prop}
variable {P : Program} {w : World} {env : Env} {dst : Option Tmp} {ty : TypeId} {pos : String} {after : Array Edge} {guard : Option (Nat × Bool)}
theorem OpE.makeMap (kv : α → Value) (good : α → Prop) {t : TypeId} : OpE P env w ⟨dst, .makeMap t none, ty, pos, after, guard⟩ (fun v w' => ∃ r, v = .map (some r) ∧ Added w w' r (.map #[] 0) ∧ MapK kv good w' r []) fun _ _ => False :=
 .of_run (w' := _) (v := _) ⟨w.heap.size, rfl, added_push w _, ⟨#[], 0, (added_push w _).at_, ⟨rfl, fun _ h => by simp at h⟩, ⟨by simp, fun _ h => by simp at h⟩⟩⟩ fun ρ hρ => ⟨_, rfl, rfl⟩
theorem run_lookup_ok {t kt et : TypeId} {r : Nat} {k : α} {m : List (α × Value)} {z : Value} (ht : P.underlying t = some (.map kt et)) (hk : KeyOk P kt kv good) (hz : (P.info? et).bind (·.zero) = some z)
  (hg : good k) (hm : MapK kv good w r m) (ok : Bool) : (Instr.lookup t (.map (some r)) (kv k) ok).run P w = .ok (if ok then .tuple #[(getM k m).getD z, .bool (getM k m).isSome] else (getM k m).getD z) w := by
 obtain ⟨es, c, h1, h2, -⟩ := hm
 obtain ⟨i, hi, hiz⟩ := Option.bind_eq_some_iff.1 hz
 have hzr : (zeroValue et).run P w = .ok z w := by unfold zeroValue; rw [run_bind _ _ (run_typeInfo hi), hiz]; rfl
 obtain ⟨q, hf, h4⟩ := hk.find w k es.toList m hg h2
 unfold Instr.lookup
 rw [run_bind _ _ (run_underlying ht)]
 simp only
 rw [run_bind _ _ (run_getObj h1 (by intros; simp))]
 simp only
 rw [run_bind (v := es) (w' := w) _ _ rfl, run_bind _ _ (hk.check w k _ hg)]
 match q, h4, hf with
 | none, h4, hf =>
  rw [run_bind _ _ hf]
  simp only
  rw [run_bind _ _ hzr, h4.1]; rfl
 | some (j, u), h4, hf =>
  rw [run_bind _ _ hf, h4.1]; rfl
theorem OpV.lookup {t kt et : TypeId} {x y : Operand} {r : Nat} {k : α} {m : List (α × Value)} {z : Value} (ht : P.underlying t = some (.map kt et)) (hk : KeyOk P kt kv good) (hz : (P.info? et).bind (·.zero) = some z)
  (hx : evO env x = some (.map (some r))) (hy : evO env y = some (kv k)) (hg : good k) (hm : MapK kv good w r m) :
  OpV P env w ⟨dst, .lookup t x y false, ty, pos, after, guard⟩ ((getM k m).getD z) := .of_run fun ρ hρ =>
 ⟨_, by simp only [execOp, hρ _ _ hx, hρ _ _ hy] <;> rfl, run_lookup_ok ht hk hz hg hm false⟩
theorem OpV.lookup2 {t kt et : TypeId} {x y : Operand} {r : Nat} {k : α} {m : List (α × Value)} {z : Value} (ht : P.underlying t = some (.map kt et)) (hk : KeyOk P kt kv good) (hz : (P.info? et).bind (·.zero) = some z)
  (hx : evO env x = some (.map (some r))) (hy : evO env y = some (kv k)) (hg : good k) (hm : MapK kv good w r m) :
  OpV P env w ⟨dst, .lookup t x y true, ty, pos, after, guard⟩ (.tuple #[(getM k m).getD z, .bool (getM k m).isSome]) := .of_run fun ρ hρ =>
 ⟨_, by simp only [execOp, hρ _ _ hx, hρ _ _ hy] <;> rfl, run_lookup_ok ht hk hz hg hm true⟩
theorem OpE.mapSet {t kt et : TypeId} {x y zz : Operand} {r : Nat} {k : α} {v : Value} {m : List (α × Value)} (ht : P.underlying t = some (.map kt et)) (hk : KeyOk P kt kv good)
  (hx : evO env x = some (.map (some r))) (hy : evO env y = some (kv k)) (hv : evO env zz = some v) (hg : good k) (hm : MapK kv good w r m) :
  OpE P env w ⟨dst, .mapUpdate t x y zz, ty, pos, after, guard⟩ (fun _ w' => MapK kv good w' r (setM k v m) ∧ ExtB (· = r) w w' ∧ w'.heap.size = w.heap.size) fun _ _ => False := by
 obtain ⟨es, c, h1, h2, hbo⟩ := hm
 obtain ⟨q, hf, h4⟩ := hk.find w k es.toList m hg h2
 have hlt := lt_of_get h1
 obtain ⟨es', c', hes, hbo', hrun⟩ : ∃ es' c', entsOk kv good es'.toList (setM k v m) ∧ bornOk es'.toList c' ∧ (Instr.mapUpdate t (.map (some r)) (kv k) v).run P w = .ok () (World.setObj w r (.map es' c')) := by
  unfold Instr.mapUpdate
  match q, h4, hf with
  | none, h4, hf =>
   refine ⟨es.push { key := kv k, val := v, born := c }, c + 1, ?_, ?_, ?_⟩
   rotate_left
   ·obtain ⟨b1, b2⟩ := hbo
    refine ⟨?_, fun e he => ?_⟩
    ·rw [Array.toList_push, List.map_append, List.map_singleton, List.nodup_append]
     refine ⟨b1, by simp, fun a ha b hb => ?_⟩
     simp only [List.mem_singleton] at hb; subst hb
     obtain ⟨e, he, rfl⟩ := List.mem_map.1 ha
     have := b2 e he
     exact Nat.ne_of_lt this
    ·rw [Array.toList_push] at he
     rcases List.mem_append.1 he with he | he
     ·have := b2 e he; omega
     ·simp only [List.mem_singleton] at he; subst he; exact Nat.lt_succ_self c
   rotate_left
   ·rw [h4.2]
    refine ⟨by have := h2.1; simp [this], fun x hx => ?_⟩
    rcases List.mem_append.1 hx with hx | hx
    ·exact h2.2 x hx
    ·simp at hx; subst hx; exact hg
   ·rw [run_bind _ _ (run_underlying ht)]
    simp only
    rw [run_bind _ _ (run_getObj h1 (by intros; simp))]
    simp only
    rw [run_bind _ _ (hk.check w k _ hg), run_bind _ _ hf]
    exact run_setObj h1 (by intros; simp)
  | some (j, u), h4, hf =>
   simp only [Found, Nat.sub_zero] at h4
   obtain ⟨-, -, ⟨e, he, hek⟩, h7⟩ := h4
   refine ⟨es.modify j fun e => { e with key := kv k, val := v }, c, ?_, ?_, ?_⟩
   ·rw [Array.toList_modify]; exact h7 v
   ·obtain ⟨b1, b2⟩ := hbo
    have hmp : (es.toList.modify j fun e => { e with key := kv k, val := v }).map (·.born) = es.toList.map (·.born) := by
     apply List.ext_getElem?
     intro i
     simp only [List.getElem?_map, List.getElem?_modify]
     cases es.toList[i]? with
     | none => rfl
     | some e => by_cases h : j = i <;> simp [h]
    rw [Array.toList_modify]
    refine ⟨by rw [hmp]; exact b1, fun e he => ?_⟩
    have : e.born ∈ (es.toList.modify j fun e => { e with key := kv k, val := v }).map (·.born) := List.mem_map.2 ⟨e, he, rfl⟩
    rw [hmp] at this
    obtain ⟨e', he', hb⟩ := List.mem_map.1 this
    rw [← hb]; exact b2 e' he'
   ·rw [run_bind _ _ (run_underlying ht)]
    simp only
    rw [run_bind _ _ (run_getObj h1 (by intros; simp))]
    simp only
    rw [run_bind _ _ (hk.check w k _ hg), run_bind _ _ hf]
    simp only
    have hgk : ((es[j]?).map (·.key)).getD (kv k) = kv k := by
     rw [Array.getElem?_toList] at he
     rw [he]; simp [hek]
    rw [hgk]
    have hks : (Instr.keyThatStays (kv k) (kv k)).run P w = .ok (kv k) w := by
     unfold Instr.keyThatStays
     rw [hk.same k hg]; rfl
    rw [run_bind _ _ hks]
    exact run_setObj h1 (by intros; simp)
 have ht' := turned_set w hlt (.map es' c')
 intro ρ hρ
 have he : execOp ρ ⟨dst, .mapUpdate t x y zz, ty, pos, after, guard⟩ = (do Instr.mapUpdate t (.map (some r)) (kv k) v; pure .skip : Sem Next) := by
  simp only [execOp, hρ _ _ hx, hρ _ _ hy, hρ _ _ hv]
 exact ExecE.of_skip (w' := World.setObj w r (.map es' c')) (by rw [he, run_bind _ _ hrun]; rfl) ⟨⟨es', c', ht'.at_, hes, hbo'⟩, ht'.ext, ht'.size⟩
end
end Go.Rn
end
section
set_option maxRecDepth 4000
namespace Go.Sg
open Go.Rn Go.Proofs Go.Rec Go.Best
attribute [local irreducible] Go.Rn.RunLN Go.Rn.AsyN Go.Rn.RunL Go.Rn.RunE Go.Rn.Asy Go.Rn.OpV Go.Rn.OpE Go.Rn.ExecE

theorem isNaN_ok (a : Int) (w : World) : Rets Tryz.prog 152 [.int .i64 a] w fun v w' => v = .bool false ∧ w = w' := by
 refine RetsX.of (nt := 6) Tryz.func152 (by kernel_rfl) rfl rfl (by simp) (by simp only [argEnv]; rfl) ?_
 repeat' (first | with_reducible refine RunLN.boolT rfl ?_ | with_reducible refine RunLN.boolF rfl ?_ | refine RunLN.boolT (by assumption) ?_ | refine RunLN.boolF (by assumption) ?_ | (with_reducible refine RunLN.decT ?_ ?_; focus omega) | (with_reducible refine RunLN.decF ?_ ?_; focus omega) | (with_reducible refine RunLN.eqT ?_ ?_; focus omega) | (with_reducible refine RunLN.eqF ?_ ?_; focus omega) | (with_reducible refine RunLN.neT ?_ ?_; focus omega) | (with_reducible refine RunLN.neF ?_ ?_; focus omega) | refine RunLN.boolT (by exact rfl) ?_ | refine RunLN.boolF (by exact rfl) ?_ | refine RunLN.int (by (first | exact wr_i64 (by omega) (by omega) | exact wm_i64 (by omega) | exact wq_i64 (by omega) (by omega) (by omega) | rfl)) ?_ | (refine RunLN.boolC (fun h_ => ?_) (fun h_ => ?_) <;> (try simp only [decide_eq_true_eq, decide_eq_false_iff_not, beq_iff_eq, bne_iff_ne, ne_eq, Bool.not_eq_true, Bool.not_eq_false, beq_eq_false_iff_ne, bne_eq_false_iff_eq, Bool.not_eq_eq_eq_not, Bool.not_true, Bool.not_false, Bool.not_not, Int.not_lt, Int.not_le, gt_iff_lt, ge_iff_le, Decidable.not_not] at h_)) | refine RunLN.any ?_ | refine RunL.ev Tryz.tOk rfl rfl rfl ?_ | refine RunL.unwantedD rfl rfl ?_ | refine RunL.unwantedN rfl ?_ | refine RunL.evV rfl rfl rfl (OpV.indexS Tryz.tOk _ rfl rfl rfl rfl (by omega)) ?_ | refine RunE.condT rfl rfl ?_ | refine RunE.condF rfl rfl ?_ | refine RunE.seq ?_ | refine RunE.region ?_ | refine RunL.nil ?_ | refine RunE.block ?_ | refine RunE.inBlock ?_ | refine RunE.skip ?_ | refine RunE.exit rfl ?_ | refine RunE.scope ?_ | refine RunE.inScope ?_ | refine RunE.label ?_)
 exact RunE.retFn Tryz.func152 (.tmp rfl .nil) ⟨rfl, rfl⟩
theorem compare_ok (a b : Int) (w : World) : Rets Tryz.prog 119 [.int .i64 a, .int .i64 b] w fun v w' => v = .int .i64 (cmpI a b) ∧ w = w' := by
 refine RetsX.of (nt := 20) Tryz.func119 (by kernel_rfl) rfl rfl (by simp) (by simp only [argEnv]; rfl) ?_
 repeat' (first | with_reducible refine RunLN.boolT rfl ?_ | with_reducible refine RunLN.boolF rfl ?_ | refine RunLN.boolT (by assumption) ?_ | refine RunLN.boolF (by assumption) ?_ | (with_reducible refine RunLN.decT ?_ ?_; focus omega) | (with_reducible refine RunLN.decF ?_ ?_; focus omega) | (with_reducible refine RunLN.eqT ?_ ?_; focus omega) | (with_reducible refine RunLN.eqF ?_ ?_; focus omega) | (with_reducible refine RunLN.neT ?_ ?_; focus omega) | (with_reducible refine RunLN.neF ?_ ?_; focus omega) | refine RunLN.boolT (by exact rfl) ?_ | refine RunLN.boolF (by exact rfl) ?_ | refine RunLN.int (by (first | exact wr_i64 (by omega) (by omega) | exact wm_i64 (by omega) | exact wq_i64 (by omega) (by omega) (by omega) | rfl)) ?_ | (refine RunLN.boolC (fun h_ => ?_) (fun h_ => ?_) <;> (try simp only [decide_eq_true_eq, decide_eq_false_iff_not, beq_iff_eq, bne_iff_ne, ne_eq, Bool.not_eq_true, Bool.not_eq_false, beq_eq_false_iff_ne, bne_eq_false_iff_eq, Bool.not_eq_eq_eq_not, Bool.not_true, Bool.not_false, Bool.not_not, Int.not_lt, Int.not_le, gt_iff_lt, ge_iff_le, Decidable.not_not] at h_)) | refine RunLN.any ?_ | refine RunL.ev Tryz.tOk rfl rfl rfl ?_ | refine RunL.unwantedD rfl rfl ?_ | refine RunL.unwantedN rfl ?_ | refine RunL.callN rfl rfl rfl (isNaN_ok _ _) ?_ | refine RunL.evV rfl rfl rfl (OpV.indexS Tryz.tOk _ rfl rfl rfl rfl (by omega)) ?_ | refine RunE.condT rfl rfl ?_ | refine RunE.condF rfl rfl ?_ | refine RunE.seq ?_ | refine RunE.region ?_ | refine RunL.nil ?_ | refine RunE.block ?_ | refine RunE.inBlock ?_ | refine RunE.skip ?_ | refine RunE.exit rfl ?_ | refine RunE.scope ?_ | refine RunE.inScope ?_ | refine RunE.label ?_)
 all_goals
  refine RunE.retFn Tryz.func119 (.tmp rfl .nil) ⟨?_, rfl⟩
  simp only [oneOr]
  congr 1
  unfold cmpI
  split <;> (try split) <;> omega
end Go.Sg
end
section
set_option maxRecDepth 4000
namespace Go.Rn
open Go.RowKit
theorem range_filterMap {β : Type} (m : List β) : (List.range m.length).filterMap (fun j => m[j]?) = m := by
 induction m with
 | nil => rfl
 | cons a m ih =>
  rw [List.length_cons, List.range_succ_eq_map, List.filterMap_cons]
  simp only [List.getElem?_cons_zero, List.filterMap_map]
  congr 1
section
variable {α : Type} [DecidableEq α] {kv : α → Value} {good : α → Prop}
structure SeenOk (es : Array MapEntry) (seen : Array Nat) (js : List Nat) : Prop where
 nodup : js.Nodup
 lt : ∀ j ∈ js, j < es.size
 mem : ∀ i e, es[i]? = some e → (e.born ∈ seen ↔ i ∈ js)
 back : seen.back? = js.getLast?.bind fun j => es[j]?.map (·.born)
def IterAt (kv : α → Value) (good : α → Prop) (w : World) (it r : Nat) (m ys : List (α × Value)) : Prop :=
 ∃ (es : Array MapEntry) (clock since : Nat) (seen : Array Nat) (js : List Nat), w.heap[it]? = some (.mapIter (some r) since seen clock) ∧ w.heap[r]? = some (.map es clock) ∧
  entsOk kv good es.toList m ∧ bornOk es.toList clock ∧ (∀ e ∈ es.toList, e.born < since) ∧ since ≤ clock ∧ SeenOk es seen js ∧ ys = js.filterMap fun j => m[j]?
theorem entsOk_length {es : List MapEntry} {m : List (α × Value)} (h : entsOk kv good es m) : es.length = m.length := by
 have := congrArg List.length h.1; simpa using this
theorem entsOk_get {es : List MapEntry} {m : List (α × Value)} (h : entsOk kv good es m) {i : Nat} {e : MapEntry} (he : es[i]? = some e) : ∃ x, m[i]? = some x ∧ e.key = kv x.1 ∧ e.val = x.2 ∧ good x.1 := by
 have h1 := congrArg (·[i]?) h.1
 simp only [List.getElem?_map, he, Option.map_some] at h1
 cases hx : m[i]? with
 | none => rw [hx] at h1; simp at h1
 | some x =>
  rw [hx] at h1
  simp only [Option.map_some, Option.some.injEq, Prod.mk.injEq] at h1
  exact ⟨x, rfl, h1.1, h1.2, h.2 x (List.mem_of_getElem? hx)⟩
theorem IterAt.ext {S : Nat → Prop} {w w' : World} {it r : Nat} {m ys : List (α × Value)} (h : IterAt kv good w it r m ys) (e : ExtB S w w') (h1 : ¬ S it) (h2 : ¬ S r) : IterAt kv good w' it r m ys := by
 obtain ⟨es, clock, since, seen, js, a, b, rest⟩ := h
 exact ⟨es, clock, since, seen, js, by rw [e.block it (lt_of_get a) h1]; exact a, by rw [e.block r (lt_of_get b) h2]; exact b, rest⟩
theorem IterAt.up {w w' : World} {it r : Nat} {m ys : List (α × Value)} (h : IterAt kv good w it r m ys) (e : Ext w w') : IterAt kv good w' it r m ys := h.ext e id id
theorem MapK.up {w w' : World} {r : Nat} {m : List (α × Value)} (h : MapK kv good w r m) (e : Ext w w') : MapK kv good w' r m := h.ext e id
theorem MapK.other {w w' : World} {r B : Nat} {m : List (α × Value)} (h : MapK kv good w r m) (e : ExtB (· = B) w w') (hn : r ≠ B) : MapK kv good w' r m := h.ext e hn
theorem perm_rest (js : List Nat) (n : Nat) (h1 : js.Nodup) (h2 : ∀ j ∈ js, j < n) : (js ++ (List.range n).filter fun j => decide (j ∉ js)).Perm (List.range n) := by
 rw [List.perm_iff_count]
 intro a
 rw [List.count_append]
 have hr : (List.range n).count a = if a < n then 1 else 0 := by
  by_cases h : a < n
  ·rw [if_pos h]; exact by rw [List.Nodup.count List.nodup_range, if_pos (List.mem_range.2 h)]
  ·rw [if_neg h]; exact List.count_eq_zero.2 (by simpa using h)
 by_cases hj : a ∈ js
 ·have e1 : js.count a = 1 := by rw [h1.count, if_pos hj]
  have e2 : ((List.range n).filter fun j => decide (j ∉ js)).count a = 0 := List.count_eq_zero.2 (by simp [hj])
  rw [e1, e2, hr, if_pos (h2 a hj)]
 ·have e1 : js.count a = 0 := List.count_eq_zero.2 hj
  have e2 : ((List.range n).filter fun j => decide (j ∉ js)).count a = (List.range n).count a := List.count_filter (by simpa using hj)
  rw [e1, e2, Nat.zero_add]
theorem IterAt.sub {w : World} {it r : Nat} {m ys : List (α × Value)} (h : IterAt kv good w it r m ys) : ∃ zs, (ys ++ zs).Perm m := by
 obtain ⟨es, clock, since, seen, js, -, -, hok, -, -, -, hs, rfl⟩ := h
 have hn : es.size = m.length := by have := entsOk_length hok; simpa using this
 refine ⟨((List.range m.length).filter fun j => decide (j ∉ js)).filterMap fun j => m[j]?, ?_⟩
 rw [← List.filterMap_append]
 have := (perm_rest js m.length hs.nodup (by rw [← hn]; exact hs.lt)).filterMap fun j => m[j]?
 rwa [range_filterMap] at this
variable {P : Program} {w : World} {env : Env} {dst : Option Tmp} {ty : TypeId} {pos : String} {after : Array Edge} {guard : Option (Nat × Bool)}
theorem OpE.rangeMap {t kt et : TypeId} {x : Operand} {r : Nat} {m : List (α × Value)} (ht : P.underlying t = some (.map kt et)) (hx : evO env x = some (.map (some r))) (hm : MapK kv good w r m) :
  OpE P env w ⟨dst, .range t x, ty, pos, after, guard⟩ (fun v w' => ∃ it, v = .pointer (some ⟨it, 0, none⟩) ∧ it = w.heap.size ∧ w'.heap.size = w.heap.size + 1 ∧ Ext w w' ∧ IterAt kv good w' it r m []) fun _ _ => False := by
 obtain ⟨es, clock, h1, h2, h3⟩ := hm
 have ha := added_push w (.mapIter (some r) clock #[] clock)
 refine .of_run (w' := { w with heap := w.heap.push (.mapIter (some r) clock #[] clock) }) (v := .pointer (some ⟨w.heap.size, 0, none⟩)) ⟨w.heap.size, rfl, rfl, ha.size, ha.ext, ?_⟩ fun ρ hρ => ⟨_, by simp only [execOp, hρ _ _ hx] <;> rfl, ?_⟩
 ·refine ⟨es, clock, clock, #[], [], ha.at_, ?_, h2, h3, h3.2, Nat.le_refl _, ⟨List.nodup_nil, by simp, by simp, by simp⟩, rfl⟩
  rw [ha.ext.block r (lt_of_get h1) id]; exact h1
 ·exact run_range_map w t kt et r es clock ht h1
theorem ext_setBlock {w : World} {b : Nat} {o : Obj} (hb : b < w.heap.size) : Turned w (Go.ChangeMaps.setBlock w b o) b o := turned_set w hb o
theorem OpE.nextMap {x : Operand} {it r : Nat} {m ys : List (α × Value)} (hx : evO env x = some (.pointer (some ⟨it, 0, none⟩))) (hi : IterAt kv good w it r m ys) :
  OpE P env w ⟨dst, .next x false, ty, pos, after, guard⟩ (fun v w' => (v = .tuple #[.bool false] ∧ w' = w ∧ ys.Perm m) ∨
   ∃ y, v = .tuple #[.bool true, kv y.1, y.2] ∧ good y.1 ∧ IterAt kv good w' it r m (ys ++ [y]) ∧ ExtB (· = it) w w' ∧ w'.heap.size = w.heap.size) fun _ _ => False := by
 obtain ⟨es, clock, since, seen, js, a, b, c, d, ho, hcl, hs, rfl⟩ := hi
 have hn : es.size = m.length := by have := entsOk_length c; simpa using this
 have hir : it ≠ r := by intro e; subst e; rw [a] at b; simp at b
 rcases run_next_at (P := P) w ty it r since clock seen es clock a b ho hcl with ⟨h0, hrun⟩ | ⟨e, he, w1, hw1, hrun⟩
 ·refine .of_run (w' := w) (v := .tuple #[.bool false]) (.inl ⟨rfl, rfl, ?_⟩) fun ρ hρ => ⟨_, by simp only [execOp, hρ _ _ hx] <;> rfl, hrun⟩
  have hall : ∀ i, i < es.size → i ∈ js := by
   intro i hi
   refine (hs.mem i es[i] (Array.getElem?_eq_getElem hi)).1 ?_
   have hl : leftOf es seen = #[] := Array.eq_empty_of_size_eq_zero h0
   unfold leftOf at hl
   rw [Array.filter_eq_empty_iff] at hl
   have := hl es[i] (Array.getElem_mem hi)
   simpa using this
  have hp := perm_rest js m.length hs.nodup (by rw [← hn]; exact hs.lt)
  have hz : ((List.range m.length).filter fun j => decide (j ∉ js)) = [] := by
   rw [List.filter_eq_nil_iff]
   intro j hj
   have := hall j (by rw [hn]; exact List.mem_range.1 hj)
   simpa using this
  rw [hz, List.append_nil] at hp
  have := hp.filterMap fun j => m[j]?
  rwa [range_filterMap] at this
 ·unfold leftOf at he
  rw [Array.mem_toList_iff, Array.mem_filter] at he
  obtain ⟨he1, he2⟩ := he
  have he2 : e.born ∉ seen := by simpa using he2
  obtain ⟨i, hi, hie⟩ := Array.getElem_of_mem he1
  have hge : es[i]? = some e := by rw [Array.getElem?_eq_getElem hi, hie]
  have hij : i ∉ js := fun h => he2 ((hs.mem i e hge).2 h)
  obtain ⟨y, hy, hk, hv, hgd⟩ := entsOk_get c (i := i) (e := e) (by rw [Array.getElem?_toList]; exact hge)
  have hw1s : w1.heap = w.heap := by rcases hw1 with rfl | rfl <;> rfl
  have X1 : Ext w w1 := by
   rcases hw1 with rfl | rfl
   ·exact ExtB.refl _ _
   ·exact ⟨Nat.le_succ _, rfl, rfl, rfl, Nat.le_refl _, fun _ _ _ => rfl⟩
  have hT := ext_setBlock (w := w1) (b := it) (o := .mapIter (some r) since (seen.push e.born) clock) (by rw [hw1s]; exact lt_of_get a)
  rw [hk, hv] at hrun
  refine .of_run (w' := _) (v := _) (.inr ⟨y, rfl, hgd, ⟨es, clock, since, seen.push e.born, js ++ [i], hT.at_, ?_, c, d, ho, hcl, ⟨?_, ?_, ?_, ?_⟩, ?_⟩, ?_, ?_⟩) fun ρ hρ => ⟨_, by simp only [execOp, hρ _ _ hx] <;> rfl, hrun⟩
  ·rw [hT.ext.block r (by rw [hw1s]; exact lt_of_get b) (fun h => hir h.symm), hw1s]; exact b
  ·rw [List.nodup_append]
   refine ⟨hs.nodup, by simp, fun u hu v hv e => ?_⟩
   simp only [List.mem_singleton] at hv
   subst hv; subst e; exact hij hu
  ·intro j hj
   rcases List.mem_append.1 hj with hj | hj
   ·exact hs.lt j hj
   ·simp only [List.mem_singleton] at hj; subst hj; exact hi
  ·intro j f hf
   rw [Array.mem_push, List.mem_append, List.mem_singleton, hs.mem j f hf]
   refine or_congr Iff.rfl ⟨fun hb => ?_, fun hb => ?_⟩
   ·have hnd := List.pairwise_iff_getElem.1 d.1
    have hjl : j < es.size := (Array.getElem?_eq_some_iff.1 hf).1
    have ej : es[j] = f := (Array.getElem?_eq_some_iff.1 hf).2
    rcases Nat.lt_trichotomy j i with h | h | h
    ·have := hnd j i (by simpa using hjl) (by simpa using hi) h
     simp only [List.getElem_map, Array.getElem_toList, ej, hie] at this
     exact absurd hb this
    ·exact h
    ·have := hnd i j (by simpa using hi) (by simpa using hjl) h
     simp only [List.getElem_map, Array.getElem_toList, ej, hie] at this
     exact absurd hb.symm this
   ·subst hb; rw [hge] at hf; cases hf; rfl
  ·rw [Array.back?_push]; simp [hge]
  ·rw [List.filterMap_append]; simp [hy]
  ·exact (ExtB.of_ext X1).trans hT.ext
  ·rw [hT.size, hw1s]
theorem OpV.entryMap {x : Operand} {it r : Nat} {m ys : List (α × Value)} {y : α × Value} (hx : evO env x = some (.pointer (some ⟨it, 0, none⟩))) (hi : IterAt kv good w it r m (ys ++ [y])) :
  OpV P env w ⟨dst, .entry x, ty, pos, after, guard⟩ (.tuple #[kv y.1, y.2]) := .of_run fun ρ hρ => by
 refine ⟨_, by simp only [execOp, hρ _ _ hx] <;> rfl, ?_⟩
 obtain ⟨es, clock, since, seen, js, a, b, c, d, ho, hcl, hs, hys⟩ := hi
 have hn : es.size = m.length := by have := entsOk_length c; simpa using this
 -- the last place
 rcases List.eq_nil_or_concat js with rfl | ⟨js', i, rfl⟩
 ·simp at hys
 have hil : i < es.size := hs.lt i (by simp)
 have hmi : i < m.length := by omega
 rw [List.concat_eq_append, List.filterMap_append] at hys
 have e1 : [i].filterMap (fun j => m[j]?) = [m[i]] := by simp [hmi]
 rw [e1] at hys
 have hy : y = m[i] := by
  have := List.append_inj_right' hys (by rfl)
  simpa using this
 obtain ⟨z, hz, hk, hv, -⟩ := entsOk_get c (i := i) (e := es[i]) (by rw [Array.getElem?_toList]; exact Array.getElem?_eq_getElem hil)
 have hzy : z = y := by rw [hy]; rw [List.getElem?_eq_getElem hmi] at hz; exact (Option.some.inj hz).symm
 subst hzy
 have hb2 : seen.back? = some es[i].born := by
  rw [hs.back, List.concat_eq_append]; simp [hil]
 obtain ⟨seen', hpush⟩ : ∃ s' : Array Nat, seen = s'.push es[i].born := by
  rw [Array.back?_eq_some_iff] at hb2
  obtain ⟨ys', hys'⟩ := hb2
  exact ⟨ys', hys'⟩
 rw [hpush] at a
 have hs0 := run_entry_at (P := P) w it r since seen' es clock es[i] a b (by simp) d.1
 rw [hk, hv] at hs0
 exact hs0
end
end Go.Rn
end
section
set_option maxRecDepth 4000
namespace Go.Rn
open Go.RowKit Go.ChangeShapes Go.WideShapes

def Shp (P : Program) (w : World) : Nat → TypeId → List Value → Prop
 | 0, _, _ => False
 | f + 1, t, cs => match P.underlying t with
  | some .bool => ∃ b, cs = [.bool b]
  | some (.int k) => ∃ n, cs = [.int k n] ∧ (Lit.int k n).wf = true
  | some .string => ∃ s : ByteArray, cs = [.string s] ∧ s.size ≤ maxLen
  | some (.slice e) => 0 < P.cellsOf e → ∃ v n, ∃ rows : List (List Value), cs = [v] ∧ n ≤ maxLen ∧ rows.length = n ∧ (∀ r ∈ rows, r.length = P.cellsOf e ∧ Shp P w f e r) ∧ IsSl w (P.cellsOf e) v n rows.flatten
  | some (.struct fs) => cs.length = P.cellsOf t ∧ ∀ fl ∈ fs.toList, Shp P w f fl.type ((cs.drop fl.offset).take (P.cellsOf fl.type))
  | some (.array n e) => cs.length = P.cellsOf t ∧ ∀ i, i < n → Shp P w f e ((cs.drop (i * P.cellsOf e)).take (P.cellsOf e))
  | _ => True

theorem mapM_mem {α β : Type} {g : α → Option β} : ∀ {l : List α} {ys : List β}, l.mapM g = some ys → ∀ x ∈ l, ∃ y, g x = some y
 | [], _, _, x, hx => by simp at hx
 | a :: r, ys, h, x, hx => by
  rw [List.mapM_cons] at h
  cases ha : g a with
  | none => simp [ha] at h
  | some y =>
   simp only [ha, Option.bind_eq_bind, Option.bind_some] at h
   cases hr : r.mapM g with
   | none => simp [hr] at h
   | some zs =>
    rcases List.mem_cons.1 hx with rfl | hx
    ·exact ⟨y, ha⟩
    ·exact mapM_mem hr x hx

theorem flatten_get {sz : Nat} : ∀ (rows : List (List Value)), (∀ r ∈ rows, r.length = sz) → ∀ i j, j < sz → (rows.flatten)[i * sz + j]? = (rows[i]?).bind (·[j]?)
 | [], _, i, j, _ => by simp
 | r :: rest, h, 0, j, hj => by
  have hr := h r (by simp)
  rw [List.flatten_cons, Nat.zero_mul, Nat.zero_add, List.getElem?_append_left (by omega)]; rfl
 | r :: rest, h, i + 1, j, hj => by
  have hr := h r (by simp)
  rw [List.flatten_cons, List.getElem?_append_right (by rw [hr, Nat.add_mul]; omega), hr, show (i + 1) * sz + j - sz = i * sz + j by rw [Nat.add_mul]; omega,
   flatten_get rest (fun x hx => h x (by simp [hx])) i j hj]
  simp
theorem flatten_length {sz : Nat} : ∀ (rows : List (List Value)), (∀ r ∈ rows, r.length = sz) → rows.flatten.length = rows.length * sz
 | [], _ => by simp
 | r :: rest, h => by
  rw [List.flatten_cons, List.length_append, h r (by simp), flatten_length rest (fun x hx => h x (by simp [hx])), List.length_cons, Nat.add_mul]; omega

section
variable {H : Type} {enc : TypeId × Value → H} {P : Program} {w : World} {held : Bool}

theorem shp_of_trod : ∀ (fuel : Nat) (t : TypeId) (cs : List Value) (x : DataW H × List MemPlace), DataW.trod enc P w 0 (fun _ => true) held fuel t cs = some x → Shp P w fuel t cs
 | 0, t, cs, x, h => by simp [DataW.trod] at h
 | fuel + 1, t, cs, x, h => by
  unfold Shp
  split
  ·rename_i ht; obtain ⟨b, rfl, -⟩ := DataW.trod_bool ht h; exact ⟨b, rfl⟩
  ·rename_i k ht; obtain ⟨n, rfl, -, hw⟩ := DataW.trod_int ht h; exact ⟨n, rfl, hw⟩
  ·rename_i ht; obtain ⟨s, rfl, -, hs⟩ := DataW.trod_string ht h; exact ⟨s, rfl, hs⟩
  ·rename_i e ht
   intro hpos
   rcases DataW.trod_slice ht h with ⟨rfl, -⟩ | ⟨a, len, cap, elems, rest, n, hfu, rfl, -, -, hlc, hcm, hlen, hel, hsp, -⟩
   ·exact ⟨_, 0, [], rfl, by simp [maxLen], rfl, by simp, by simpa using IsSl.nil⟩
   ·obtain rfl : fuel = n := by omega
    obtain ⟨hrl, hre⟩ := hsp rfl
    have all : ∀ i, i < cap → ∃ cs', w.cells? 0 (a.add (i * P.cellsOf e)) (P.cellsOf e) = some cs' ∧ ∃ y, DataW.trod enc P w 0 (fun _ => true) held fuel e cs' = some y := by
     intro i hi
     by_cases hil : i < len
     ·have h1 := hel i hil
      rw [List.getElem?_eq_getElem (by omega)] at h1
      obtain ⟨cs', h1, h2⟩ := Option.bind_eq_some_iff.1 h1
      exact ⟨cs', h1, _, h2⟩
     ·have h1 := hre (i - len) (by omega)
      rw [show len + (i - len) = i by omega, List.getElem?_eq_getElem (by omega)] at h1
      obtain ⟨cs', h1, h2⟩ := Option.bind_eq_some_iff.1 h1
      exact ⟨cs', h1, _, h2⟩
    obtain ⟨F, hF⟩ := Deep.choose_lt (α := List Value) (p := fun i cs' => w.cells? 0 (a.add (i * P.cellsOf e)) (P.cellsOf e) = some cs' ∧ ∃ y, DataW.trod enc P w 0 (fun _ => true) held fuel e cs' = some y) all
    have hlenF : ∀ i, i < cap → (F i).length = P.cellsOf e := fun i hi => (World.cells?_some (hF i hi).1).2.1
    refine ⟨_, len, (List.range len).map F, rfl, by omega, by simp, ?_, ?_⟩
    ·intro r hr
     obtain ⟨i, hi, rfl⟩ := List.mem_map.1 hr
     have hi' : i < cap := by have := List.mem_range.1 hi; omega
     obtain ⟨y, hy⟩ := (hF i hi').2
     exact ⟨hlenF i hi', shp_of_trod fuel e _ y hy⟩
    ·by_cases h0 : cap = 0
     ·subst h0
      obtain rfl : len = 0 := by omega
      simpa using IsSl.nil
     ·have hsp : a.spot = none := by
       have h1 := (World.cells?_some (hF 0 (by omega)).1).2.2 0 hpos
       rw [Nat.zero_mul] at h1
       have e0 : (a.add 0).add 0 = a := by simp [Addr.add]
       rw [e0] at h1
       have hl := hlenF 0 (by omega)
       rw [List.getElem?_eq_getElem (by omega)] at h1
       unfold World.cell? at h1
       split at h1
       ·split at h1
        ·simp at h1
        ·rename_i hs; simpa using hs
       ·simp at h1
      obtain ⟨ab, ao, asp⟩ := a
      simp only at hsp; subst hsp
      have hrl : ∀ r ∈ (List.range len).map F, r.length = P.cellsOf e := by
       intro r hr
       obtain ⟨i, hi, rfl⟩ := List.mem_map.1 hr
       exact hlenF i (by have := List.mem_range.1 hi; omega)
      refine .row ?_ (by rw [flatten_length _ hrl]; simp) hlc
      intro q v hv
      have hq : q < len * P.cellsOf e := by
       rcases Nat.lt_or_ge q (len * P.cellsOf e) with h | h
       ·exact h
       ·rw [List.getElem?_eq_none (by rw [flatten_length _ hrl]; simpa using h)] at hv; simp at hv
      have hqi : q / P.cellsOf e < len := Nat.div_lt_of_lt_mul (by rw [Nat.mul_comm]; exact hq)
      have hqj : q % P.cellsOf e < P.cellsOf e := Nat.mod_lt _ hpos
      have hqe : q / P.cellsOf e * P.cellsOf e + q % P.cellsOf e = q := by rw [Nat.mul_comm]; exact Nat.div_add_mod q _
      rw [← hqe, flatten_get _ hrl _ _ hqj] at hv
      simp only [List.getElem?_map, List.getElem?_range hqi, Option.map_some, Option.bind_some] at hv
      have h1 := (World.cells?_some (hF _ (by omega : q / P.cellsOf e < cap)).1).2.2 _ hqj
      rw [hv] at h1
      rw [add_none, add_none] at h1
      rw [← hqe, ← Nat.add_assoc]; exact h1
  ·rename_i fs ht
   obtain ⟨xs, n, hfu, -, hl, hxl, hx⟩ := DataW.trod_struct ht h
   obtain rfl : fuel = n := by omega
   refine ⟨hl, fun fl hfl => ?_⟩
   obtain ⟨i, hi, rfl⟩ := List.getElem_of_mem hfl
   have h1 := hx i (fs.toList[i]) (by simp)
   rw [List.getElem?_eq_getElem (by rw [hxl]; simpa using hi)] at h1
   exact shp_of_trod fuel _ _ _ h1
  ·rename_i n e ht
   unfold DataW.trod at h
   rw [ht] at h
   split at h <;> simp_all
   obtain ⟨hl, xs, hxs, -⟩ := h
   intro i hi
   obtain ⟨y, hy⟩ := mapM_mem hxs i (by simpa using hi)
   exact shp_of_trod fuel _ _ y hy
  ·trivial

theorem shp_of_Trod {t : TypeId} {v : Value} {d : DataW H} {ps : List MemPlace} (h : DataW.Trod enc P w 0 (fun _ => true) held t v d ps) : ∃ fuel, Shp P w fuel t v.cells.toList := by
 obtain ⟨fuel, hf⟩ := h
 exact ⟨fuel, shp_of_trod fuel t _ _ hf⟩
end

section
variable {P : Program} {w : World} {fuel : Nat} {t : TypeId} {cs : List Value}
theorem Shp.int {k : IntKind} (h : Shp P w fuel t cs) (ht : P.underlying t = some (.int k)) : ∃ n, cs = [.int k n] ∧ (Lit.int k n).wf = true := by
 cases fuel with
 | zero => exact h.elim
 | succ f => unfold Shp at h; rw [ht] at h; exact h
theorem Shp.bool (h : Shp P w fuel t cs) (ht : P.underlying t = some .bool) : ∃ b, cs = [.bool b] := by
 cases fuel with
 | zero => exact h.elim
 | succ f => unfold Shp at h; rw [ht] at h; exact h
theorem Shp.str (h : Shp P w fuel t cs) (ht : P.underlying t = some .string) : ∃ s : ByteArray, cs = [.string s] ∧ s.size ≤ maxLen := by
 cases fuel with
 | zero => exact h.elim
 | succ f => unfold Shp at h; rw [ht] at h; exact h
theorem Shp.slice {e : TypeId} {sz : Nat} (h : Shp P w fuel t cs) (ht : P.underlying t = some (.slice e)) (hs : P.cellsOf e = sz) (hp : 0 < sz) :
  ∃ f v n, ∃ rows : List (List Value), cs = [v] ∧ n ≤ maxLen ∧ rows.length = n ∧ (∀ r ∈ rows, r.length = sz ∧ Shp P w f e r) ∧ IsSl w sz v n rows.flatten := by
 cases fuel with
 | zero => exact h.elim
 | succ f => unfold Shp at h; rw [ht] at h; subst hs; exact ⟨f, h hp⟩
theorem Shp.struct {fs : Array Field} (h : Shp P w fuel t cs) (ht : P.underlying t = some (.struct fs)) :
  cs.length = P.cellsOf t ∧ ∃ f, ∀ fl ∈ fs.toList, Shp P w f fl.type ((cs.drop fl.offset).take (P.cellsOf fl.type)) := by
 cases fuel with
 | zero => exact h.elim
 | succ f => unfold Shp at h; rw [ht] at h; exact ⟨h.1, f, h.2⟩
theorem Shp.array {n : Nat} {e : TypeId} (h : Shp P w fuel t cs) (ht : P.underlying t = some (.array n e)) :
  cs.length = P.cellsOf t ∧ ∃ f, ∀ i, i < n → Shp P w f e ((cs.drop (i * P.cellsOf e)).take (P.cellsOf e)) := by
 cases fuel with
 | zero => exact h.elim
 | succ f => unfold Shp at h; rw [ht] at h; exact ⟨h.1, f, h.2⟩

theorem u8_cells {n : Int} (h : (Lit.int .u8 n).wf = true) : ∃ b : UInt8, n = (b.toNat : Int) := by
 have e1 : IntKind.u8.min = 0 := rfl
 have e2 : IntKind.u8.max = 255 := rfl
 simp only [Lit.wf, decide_eq_true_eq, Bool.and_eq_true, e1, e2] at h
 refine ⟨UInt8.ofNat n.toNat, ?_⟩
 rw [UInt8.toNat_ofNat']; omega
end
end Go.Rn
end
section
set_option maxRecDepth 4000
namespace Go.Rn
open Go.RowKit Go.ChangeShapes Go.WideShapes
inductive FK where
 | int (k : IntKind)
 | bool
 | str
def FK.desc : FK → TypeDesc
 | .int k => .int k
 | .bool => .bool
 | .str => .string
def FK.ok : FK → Value → Prop
 | .int k, v => ∃ n, v = .int k n
 | .bool, v => ∃ b, v = .bool b
 | .str, v => ∃ s, v = .string s
def FK.wf : FK → Value → Prop
 | .int k, v => ∃ n, v = .int k n ∧ (Lit.int k n).wf = true
 | .bool, v => ∃ b, v = .bool b
 | .str, v => ∃ s : ByteArray, v = .string s ∧ s.size ≤ maxLen
def veq : Value → Value → Bool
 | .int _ a, .int _ b => a == b
 | .bool a, .bool b => a == b
 | .string a, .string b => a.toList == b.toList
 | _, _ => false
def eqAll : List Value → List Value → Bool
 | [], [] => true
 | a :: r, b :: s => veq a b && eqAll r s
 | _, _ => false
structure Flat (P : Program) (t : TypeId) (ts : List (TypeId × FK)) : Prop where
 und : P.underlying t = some (.struct (P.fieldsOf t))
 fields : (P.fieldsOf t).toList.map (fun f => ((f.name == "_"), f.type, f.offset)) = ts.zipIdx.map fun x => (false, x.1.1, x.2)
 held : P.stoodInHeld t = false
 guard : P.eqGuardType P.depth t = false
 cells : P.cellsOf t = ts.length
 kinds : ∀ x ∈ ts, P.underlying x.1 = some x.2.desc ∧ cellsAgg P x.1 = some (1, false) ∧ P.cellsOf x.1 = 1
variable {P : Program} {w : World}
theorem run_eqFlat {d : Nat} (xs ys : List Value) : ∀ (fs : List Field) (ts : List (TypeId × FK)) (k : Nat), fs.map (fun f => ((f.name == "_"), f.type, f.offset)) = (ts.zipIdx k).map (fun x => (false, x.1.1, x.2)) →
  (∀ x ∈ ts, P.underlying x.1 = some x.2.desc ∧ cellsAgg P x.1 = some (1, false) ∧ P.cellsOf x.1 = 1) → xs.length = k + ts.length → ys.length = k + ts.length →
  (∀ (i : Nat) (x : TypeId × FK), ts[i]? = some x → ∃ u v, xs[k + i]? = some u ∧ ys[k + i]? = some v ∧ x.2.ok u ∧ x.2.ok v) → (Op.eqFields (d + 1) xs.toArray ys.toArray fs).run P w = .ok (eqAll (xs.drop k) (ys.drop k)) w
 | [], [], k, _, _, hx, hy, _ => by
  rw [List.drop_eq_nil_of_le (by simp at hx; omega), List.drop_eq_nil_of_le (by simp at hy; omega)]; rfl
 | [], t :: ts, k, h, _, _, _, _ => by simp at h
 | f :: fs, [], k, h, _, _, _, _ => by simp at h
 | f :: fs, x :: ts, k, h, hk, hx, hy, hv => by
  simp only [List.map_cons, List.zipIdx_cons, List.cons.injEq, Prod.mk.injEq] at h
  obtain ⟨⟨n0, t0, o0⟩, hr⟩ := h
  have n0' : f.name ≠ "_" := by simpa using n0
  obtain ⟨u, v, hu, hv', ku, kv⟩ := hv 0 x rfl
  obtain ⟨hd, hc, -⟩ := hk x List.mem_cons_self
  rw [Nat.add_zero] at hu hv'
  have pu : (part f.type xs.toArray f.offset).run P w = .ok u w := by rw [t0, o0]; exact run_part hc _ _ (by simpa using hu)
  have pv : (part f.type ys.toArray f.offset).run P w = .ok v w := by rw [t0, o0]; exact run_part hc _ _ (by simpa using hv')
  have pe : (Op.equalIn (d + 1) f.type u v).run P w = .ok (veq u v) w := by
   rw [t0]
   obtain ⟨ti, kd⟩ := x
   cases kd with
   | int kk => obtain ⟨a, rfl⟩ := ku; obtain ⟨b, rfl⟩ := kv; exact run_equalIn_int w d ti kk kk a b hd
   | bool => obtain ⟨a, rfl⟩ := ku; obtain ⟨b, rfl⟩ := kv; exact run_equalIn_bool w d ti a b hd
   | str => obtain ⟨a, rfl⟩ := ku; obtain ⟨b, rfl⟩ := kv; exact run_equalIn_string w d ti a b hd
  have hkx : k < xs.length := by rw [hx]; simp
  have hky : k < ys.length := by rw [hy]; simp
  have e1 : xs.drop k = u :: xs.drop (k + 1) := by rw [List.drop_eq_getElem_cons hkx]; rw [List.getElem?_eq_getElem hkx] at hu; injection hu with hu; rw [hu]
  have e2 : ys.drop k = v :: ys.drop (k + 1) := by rw [List.drop_eq_getElem_cons hky]; rw [List.getElem?_eq_getElem hky] at hv'; injection hv' with hv'; rw [hv']
  have ih := run_eqFlat (d := d) xs ys fs ts (k + 1) hr (fun y hy => hk y (List.mem_cons_of_mem _ hy)) (by rw [hx, List.length_cons]; omega) (by rw [hy, List.length_cons]; omega)
   (fun i y hi => by obtain ⟨u, v, h1, h2, h3⟩ := hv (i + 1) y hi; exact ⟨u, v, by rw [← h1]; congr 1; omega, by rw [← h2]; congr 1; omega, h3⟩)
  simp only [Op.eqFields, n0', ne_eq, not_false_eq_true, if_true]
  rw [run_bind _ _ pu, run_bind _ _ pv, run_bind _ _ pe, e1, e2]
  simp only [eqAll]
  cases hb : veq u v with
  | false => rfl
  | true => simp only [Bool.not_true, Bool.false_eq_true, if_false, Bool.true_and]; exact ih
def fits (ts : List (TypeId × FK)) (cs : List Value) : Prop := cs.length = ts.length ∧ ∀ (i : Nat) (x : TypeId × FK), ts[i]? = some x → ∃ u, cs[i]? = some u ∧ x.2.ok u
theorem Flat.run {t : TypeId} {ts : List (TypeId × FK)} (h : Flat P t ts) {xs ys : List Value} (hx : fits ts xs) (hy : fits ts ys) :
  (Op.equalIn 10000 t (.agg xs.toArray) (.agg ys.toArray)).run P w = .ok (eqAll xs ys) w := by
 rw [show (10000 : Nat) = 9999 + 1 from rfl, run_equalIn_struct w 9999 _ _ _ h.und h.held]
 have := run_eqFlat (P := P) (w := w) (d := 9998) xs ys (P.fieldsOf t).toList ts 0 h.fields h.kinds (by rw [hx.1]; omega) (by rw [hy.1]; omega) (fun i x hi => by
  obtain ⟨u, h1, h2⟩ := hx.2 i x hi
  obtain ⟨v, h3, h4⟩ := hy.2 i x hi
  exact ⟨u, v, by rw [Nat.zero_add]; exact h1, by rw [Nat.zero_add]; exact h3, h2, h4⟩)
 simpa using this
variable {env : Env} {dst : Option Tmp} {ty : TypeId} {pos : String} {after : Array Edge} {guard : Option (Nat × Bool)}
theorem OpV.eqFlat {t u : TypeId} {ts : List (TypeId × FK)} (h : Flat P t ts) {x y : Operand} {xs ys : List Value} (hx : evO env x = some (.agg xs.toArray)) (hy : evO env y = some (.agg ys.toArray)) (h1 : fits ts xs) (h2 : fits ts ys) :
  OpV P env w ⟨dst, .binOp .eql t x y u, ty, pos, after, guard⟩ (.bool (eqAll xs ys)) := .of_run fun ρ hρ => by
 refine ⟨_, by simp only [execOp, hρ _ _ hx, hρ _ _ hy]; rfl, ?_⟩
 rw [run_bind _ _ (run_eqGuard_agg w .eql t x y _ _ h.guard), run_eql_struct, h.run h1 h2]; rfl
theorem shp_flat {t : TypeId} {ts : List (TypeId × FK)} (h : Flat P t ts) {fuel : Nat} {cs : List Value} (hs : Shp P w fuel t cs) : cs.length = ts.length ∧ ∀ (i : Nat) (x : TypeId × FK), ts[i]? = some x → ∃ u, cs[i]? = some u ∧ x.2.wf u := by
 obtain ⟨hl, f, hs⟩ := hs.struct h.und
 rw [h.cells] at hl
 refine ⟨hl, fun i x hi => ?_⟩
 have hf := congrArg (·[i]?) h.fields
 simp only [List.getElem?_map, List.getElem?_zipIdx, hi, Option.map_some, Nat.zero_add] at hf
 obtain ⟨fl, hfl, he⟩ := Option.map_eq_some_iff.1 hf
 simp only [Prod.mk.injEq] at he
 obtain ⟨-, t0, o0⟩ := he
 have h0 := hs fl (List.mem_of_getElem? hfl)
 obtain ⟨hd, -, hc⟩ := h.kinds x (List.mem_of_getElem? hi)
 have hilt : i < ts.length := by
  rcases Nat.lt_or_ge i ts.length with h | h
  ·exact h
  ·rw [List.getElem?_eq_none h] at hi; simp at hi
 have hic : i < cs.length := by omega
 rw [t0, o0, hc, List.drop_eq_getElem_cons hic, List.take_succ_cons, List.take_zero] at h0
 refine ⟨cs[i], List.getElem?_eq_getElem hic, ?_⟩
 obtain ⟨ti, kd⟩ := x
 cases kd with
 | int kk => obtain ⟨n, h1, h2⟩ := h0.int hd; exact ⟨n, (List.cons.inj h1).1, h2⟩
 | bool => obtain ⟨b, h1⟩ := h0.bool hd; exact ⟨b, (List.cons.inj h1).1⟩
 | str => obtain ⟨s, h1, h2⟩ := h0.str hd; exact ⟨s, (List.cons.inj h1).1, h2⟩
end Go.Rn
end
section
set_option maxRecDepth 4000
namespace Go.Rn
open Go.RowKit
section
variable {P : Program} {w : World} {α : Type} [DecidableEq α] {enc : α → List Value} {kt : TypeId} {ts : List (TypeId × FK)}
def encV' (enc : α → List Value) (a : α) : Value := .agg (enc a).toArray
theorem findAskingF_ok (h : Flat P kt ts) (hf : ∀ a, fits ts (enc a)) (he : ∀ a b, eqAll (enc a) (enc b) = decide (a = b)) (k : α) : ∀ (es : List MapEntry) (m : List (α × Value)) (i : Nat), entsOk (encV' enc) (fun _ => True) es m →
  ∃ r, (Instr.findAsking kt (encV' enc k) es i).run P w = .ok r w ∧ Found (encV' enc) (fun _ => True) k es m i r
 | [], m, i, hm => ⟨none, rfl, found_nil k i hm⟩
 | x :: es, m, i, hm => by
  obtain ⟨j, u, m', -, hkj, hg, hr, h1, h2⟩ := found_cons (k := k) (i := i) trivial hm
  have hq : (Op.equal kt (encV' enc k) (encV' enc j)).run P w = .ok (eqAll (enc k) (enc j)) w := h.run (hf k) (hf j)
  simp only [Instr.findAsking]
  rw [hkj, run_bind _ _ hq, he]
  by_cases hh : k = j
  ·rw [decide_eq_true hh]
   exact ⟨some (i, x.val), rfl, h1 hh⟩
  ·rw [decide_eq_false hh]
   obtain ⟨r, h3, h4⟩ := findAskingF_ok h hf he k es m' (i + 1) hr
   exact ⟨r, h3, h2 hh r h4⟩
theorem run_checkF (n : Nat) (b : Bool) (cs : List Value) : ∀ (fs : List Field) (ts : List (TypeId × FK)) (k : Nat), fs.map (fun f => ((f.name == "_"), f.type, f.offset)) = (ts.zipIdx k).map (fun x => (false, x.1.1, x.2)) →
  (∀ x ∈ ts, P.underlying x.1 = some x.2.desc ∧ cellsAgg P x.1 = some (1, false) ∧ P.cellsOf x.1 = 1) → (∀ (i : Nat) (x : TypeId × FK), ts[i]? = some x → ∃ u, cs[k + i]? = some u ∧ x.2.ok u) →
  (forIn (m := Sem) fs PUnit.unit fun f _ => if f.name ≠ "_" then do Instr.checkKey b (n + 1) f.type (← part f.type cs.toArray f.offset); pure (ForInStep.yield PUnit.unit) else pure (ForInStep.yield PUnit.unit)).run P w = .ok PUnit.unit w
 | [], _, _, _, _, _ => rfl
 | f :: fs, [], k, h, _, _ => by simp at h
 | f :: fs, x :: ts, k, h, hk, hv => by
  simp only [List.map_cons, List.zipIdx_cons, List.cons.injEq, Prod.mk.injEq] at h
  obtain ⟨⟨n0, t0, o0⟩, hr⟩ := h
  have n0' : f.name ≠ "_" := by simpa using n0
  obtain ⟨u, hu, ku⟩ := hv 0 x rfl
  obtain ⟨hd, hc, -⟩ := hk x List.mem_cons_self
  rw [Nat.add_zero] at hu
  have pu : (part f.type cs.toArray f.offset).run P w = .ok u w := by rw [t0, o0]; exact run_part hc _ _ (by simpa using hu)
  have hchk : (Instr.checkKey b (n + 1) f.type u).run P w = .ok () w := by
   rw [t0]
   unfold Instr.checkKey
   rw [run_bind _ _ (run_underlying hd)]
   obtain ⟨ti, kd⟩ := x
   cases kd <;> rfl
  have ih := run_checkF n b cs fs ts (k + 1) hr (fun y hy => hk y (List.mem_cons_of_mem _ hy)) (fun i y hi => by obtain ⟨u, h1, h3⟩ := hv (i + 1) y hi; exact ⟨u, by rw [← h1]; congr 1; omega, h3⟩)
  rw [List.forIn_cons]
  refine Eq.trans (run_bind (v := ForInStep.yield PUnit.unit) (w' := w) _ _ ?_) ih
  rw [if_pos n0', run_bind _ _ pu, run_bind _ _ hchk]
  rfl
theorem sameBits_flat {x : FK} {u : Value} (n : Nat) (h : x.ok u) : Instr.sameBits (n + 1) u u = true := by
 cases x with
 | int k => obtain ⟨a, rfl⟩ := h; simp [Instr.sameBits]
 | bool => obtain ⟨a, rfl⟩ := h; simp [Instr.sameBits]
 | str =>
  obtain ⟨a, rfl⟩ := h
  simp only [Instr.sameBits]
  obtain ⟨d⟩ := a
  show (d == d) = true
  simp
theorem keyOk_flat (h : Flat P kt ts) (hf : ∀ a, fits ts (enc a)) (he : ∀ a b, eqAll (enc a) (enc b) = decide (a = b)) : KeyOk P kt (encV' enc) fun _ => True where
 find w k es m hk hm := by
  unfold Instr.findKey
  cases es with
  | nil =>
   refine ⟨none, ?_, found_nil k 0 hm⟩
   rw [run_bind _ _ (run_underlying h.und)]; rfl
  | cons x es =>
   obtain ⟨r, h1, h2⟩ := findAskingF_ok (w := w) h hf he k (x :: es) m 0 hm
   refine ⟨r, ?_, h2⟩
   rw [run_bind _ _ (run_underlying h.und)]
   exact h1
 check w k b hk := by
  show (Instr.checkKey b (9999 + 1) kt (.agg (enc k).toArray)).run P w = _
  unfold Instr.checkKey
  rw [run_bind _ _ (run_underlying h.und)]
  simp only
  have := run_checkF (P := P) (w := w) 9998 b (enc k) (P.fieldsOf kt).toList ts 0 h.fields h.kinds (fun i x hi => by obtain ⟨u, h1, h2⟩ := (hf k).2 i x hi; exact ⟨u, by rw [Nat.zero_add]; exact h1, h2⟩)
  rw [← Array.forIn_toList]
  exact run_bind _ _ this |>.trans rfl
 same k _ := by
  show Instr.sameBits (9999 + 1) (.agg (enc k).toArray) (.agg (enc k).toArray) = true
  simp only [Instr.sameBits, beq_self_eq_true, Bool.true_and]
  rw [List.all_eq_true]
  rintro ⟨a, b⟩ hx
  obtain ⟨i, hi⟩ := List.getElem?_of_mem hx
  rw [List.getElem?_zip_eq_some] at hi
  have hab : a = b := Option.some.inj (hi.1.symm.trans hi.2)
  subst hab
  have hi := hi.1
  have hl : i < ts.length := by
   have := (List.getElem?_eq_some_iff.1 hi).1
   have := (hf k).1
   simp at *; omega
  obtain ⟨u, h1, h2⟩ := (hf k).2 i ts[i] (List.getElem?_eq_getElem hl)
  have : u = a := by
   have hi' : (enc k)[i]? = some a := by simpa using hi
   rw [h1] at hi'; exact Option.some.inj hi'
  subst this
  exact sameBits_flat 9998 h2
end
end Go.Rn
end
section
set_option maxRecDepth 4000
namespace Go.Rn
open Go.RowKit
section
variable {P : Program} {c : Ctx} {k : List Item} {Q : Out → Act → World → Prop} {w0 : World} {n : Nat} {ds : List Deferred} {env : Env} {S : Nat → Prop} {sats pres : List (Nat × Pred)} {ph : Option (Option Nat × Pred)} {mu : List Bool}
variable {l : List Oper} {d : Tmp} {op : Op} {ty : TypeId} {pos : String} {after : Array Edge} {guard : Option (Nat × Bool)} {rest : List Oper}
theorem Asy.wriN (V : World → Prop) (hw : wantE l env ⟨none, op, ty, pos, after, guard⟩ = some true) (hd : isDefer op = false) (hs : isSel op = false)
  (hV : ∀ w' w'', ExtB S w0 w' → Ext w' w'' → V w' → V w'')
  (h : ∀ w', Ext w0 w' → OpE P env w' ⟨none, op, ty, pos, after, guard⟩ (fun _ w'' => ExtB S w' w'' ∧ V w'') fun _ _ => False)
  (h' : Asy P c n ds S w0 l k Q rest ⟨env, sats, some (none, fun _ w => V w), true :: mu, pres⟩) : Asy P c n ds S w0 l k Q (⟨none, op, ty, pos, after, guard⟩ :: rest) ⟨env, sats, none, mu, pres⟩ :=
 .step (e := .wri fun _ w => V w) ⟨rfl, hs, hw, hd, fun _ => hV, fun w' ρ hx hg _ => h w' hx ρ hg.ev⟩ h'
theorem Asy.tailN {U : Pred} (hc : chk l mu.reverse l [] = true) (h : ∀ w' x, ExtB S w0 w' → U x w' → satsAll sats w' env fun e => RunL P c n ds l.toArray rest k Q e w') :
  Asy P c n ds S w0 l k Q rest ⟨env, sats, some (none, U), mu, pres⟩ :=
 ⟨[], hc, fun w' xs hx hs hp i hi a ha => by
  obtain ⟨x, hU, -⟩ := hp
  exact satsAll_run (xs := xs) sats env hs (h w' x hx hU) i hi a (ha.sub fun t' v ht => get_swap (A := sats.map fun s => (s.1, xs s.1)) (xs := xs) (by
   intro t v hm
   obtain ⟨s, -, he⟩ := List.mem_map.1 hm
   injection he with h1 h2; subst h1; exact h2.symm) t' v ht)⟩
end
theorem OpE.store {P : Program} {w : World} {env : Env} {ty : TypeId} {pos : String} {after : Array Edge} {guard : Option (Nat × Bool)} {T : Tab} (hT : T.Ok P) {t bt : TypeId} {i : TI} {x y : Operand} {b o : Nat} {v : Value} {cs : List Value}
  (hx : evO env x = some (.pointer (some ⟨b, o, none⟩))) (hy : evO env y = some v)
  (ht : T.get t = some i) (hsz : v.cells.toList.length = i.size) (hb : Blk w b cs bt) (hlen : Nat.ble (o + v.cells.toList.length) cs.length = true) (hp : v.cells.toList.all plainV = true) :
  OpE P env w ⟨none, .store t x y, ty, pos, after, guard⟩ (fun _ w' => Turned w w' b (.cells (setAt cs o v.cells.toList).toArray bt (0, 0))) fun _ _ => False := fun ρ hρ => by
 refine ExecE.of_skip (w' := World.setObj w b (.cells (setAt cs o v.cells.toList).toArray bt (0, 0))) ?_ (turned_set w hb.lt _)
 simp only [execOp, Instr.storeAt, hρ _ _ hx, hρ _ _ hy]
 refine Eq.trans (run_bind (v := ()) (w' := World.setObj w b (.cells (setAt cs o v.cells.toList).toArray bt (0, 0))) _ _ ?_) rfl
 rw [run_bind _ _ (show (Instr.sureAddr (.pointer (some ⟨b, o, none⟩))).run P w = .ok ⟨b, o, none⟩ w from rfl)]
 obtain ⟨j, hj, hs, _⟩ := TI.info (hT.get _ _ ht)
 unfold storeVar
 rw [run_bind _ _ (run_sizeOf hj)]
 rw [if_neg (by rw [hs, ← hsz]; simp)]
 have := run_storeCells (P := P) v.cells.toList 0 cs hb (by have := Nat.le_of_ble_eq_true hlen; omega) (List.all_eq_true.1 hp)
 simpa using this
end Go.Rn
end
section
set_option maxRecDepth 4000
namespace Go.Rn
open Go.RowKit
theorem obj_ext {S : Nat → Prop} {w w' : World} {b : Nat} {o : Obj} (h : w.heap[b]? = some o) (e : ExtB S w w') (hn : ¬ S b) : w'.heap[b]? = some o := by rw [e.block b (lt_of_get h) hn]; exact h
def Gives (P : Program) (f : Value) (xs : List (List Value)) (w0 : World) (F : Nat → Prop) : Prop :=
 ∀ (S : Nat → Prop) (J : Nat → World → Prop) (y : Value) (w : World), (∀ k, F k → ¬ S k) → J 0 w → (∀ i w1, J i w1 → ExtB S w0 w1) → (∀ i w1 w2, J i w1 → Ext w1 w2 → J i w2) →
  (∀ i x w1, xs[i]? = some x → J i w1 → FnV P y x w1 (fun r w2 => r = .bool true ∧ J (i + 1) w2) fun _ _ => False) → FnV P f [y] w (fun _ w' => J xs.length w') fun _ _ => False
structure LoopAt (w : World) (L D : Nat) (lp : Loop) : Prop where
 l : w.heap[L]? = some (.loop lp)
 d : w.heap[D]? = some (.deferred (some []))
theorem LoopAt.ext {S : Nat → Prop} {w w' : World} {L D : Nat} {lp : Loop} (h : LoopAt w L D lp) (e : ExtB S w w') (h1 : ¬ S L) (h2 : ¬ S D) : LoopAt w' L D lp := ⟨obj_ext h.l e h1, obj_ext h.d e h2⟩
theorem LoopAt.up {w w' : World} {L D : Nat} {lp : Loop} (h : LoopAt w L D lp) (e : Ext w w') : LoopAt w' L D lp := h.ext e id id
def RoundJ (L D : Nat) (lp : Loop) (K : World → Prop) : Out → Act → World → Prop
 | .fall, _, w => K w ∧ LoopAt w L D { lp with state := .busy }
 | _, _, _ => False
section
variable {P : Program} {c : Ctx} {k : List Item} {Q : Out → Act → World → Prop} {w : World} {n : Nat} {ds : List Deferred} {env : Env}
theorem RunE.beginR {fn : FuncId} {kind : CallKind} {L D : Nat} {lp : Loop} (hl : LoopAt w L D lp) (hs : lp.state = .ready) (hn : L ≠ D)
  (h : ∀ w', ExtB (· = L) w w' → LoopAt w' L D { lp with state := .busy } → RunE P ⟨fn, kind, some L⟩ n ds k Q env w') : RunE P ⟨fn, kind, some L⟩ n ds (.beginRound :: k) Q env w :=
 .beginRound hl.l hs fun w' t => h w' t.ext ⟨t.at_, obj_ext hl.d t.ext (fun e => hn e.symm)⟩
theorem RunE.endR {L D : Nat} {lp : Loop} {K : World → Prop} (hK : K w) (hl : LoopAt w L D { lp with state := .busy }) : RunE P c n ds [] (RoundJ L D lp K) env w := .nil fun _ _ => ⟨hK, hl⟩
theorem RunE.rangeGives {f : Operand} {params : Array Tmp} {assign body : Code} {fv : Value} {xs : List (List Value)} {w0 : World} {F : Nat → Prop} (hc : c.round = none) (hfn : ∃ g, P.funcs[c.fn]? = some g)
  (hf : evO env f = some fv) (hG : Gives P fv xs w0 F) (S0 : Nat → Prop) (hF : ∀ k, F k → ¬ S0 k ∧ k < w.heap.size) (hX : ExtB S0 w0 w)
  (hlen : ∀ x ∈ xs, x.length = params.toList.length) (hp : params.toList.all (Nat.blt · n) = true) (J : Nat → World → Prop)
  (h0 : ∀ w2, Ext w w2 → w2.heap.size = w.heap.size + 2 → J 0 w2) (hJS : ∀ i w1, J i w1 → ExtB S0 w w1)
  (hJup : ∀ i w1 w2, J i w1 → ExtB (fun k => k = w.heap.size ∨ k = w.heap.size + 1) w1 w2 → J i w2)
  (hb : ∀ i x w1 lp, xs[i]? = some x → J i w1 → LoopAt w1 (w.heap.size + 1) w.heap.size lp → lp.state = .ready →
   RunE P ⟨c.fn, .normal, some (w.heap.size + 1)⟩ n [] [.code assign, .beginRound, .code body] (RoundJ (w.heap.size + 1) w.heap.size lp (J (i + 1))) (parEnv params.toList x env) w1)
  (h : ∀ w', J xs.length w' → w'.heap[w.heap.size]? = some (.deferred (some [])) → RunE P c n (markOf w.heap.size :: ds) k Q env w') :
  RunE P c n ds (.code (.rangeFunc f params assign body) :: k) Q env w := by
 refine RunE.rangeFunc hc hf fun a D L w1 w2 lp hst h1 h2 hlp => ?_
 obtain rfl : D = w.heap.size := h1.eq
 have e2 := h2.eq
 rw [h1.size] at e2
 subst e2
 have hX2 : Ext w w2 := h1.ext.trans h2.ext
 have hL2 : LoopAt w2 (w.heap.size + 1) w.heap.size lp := ⟨h2.at_, obj_ext h1.at_ h2.ext id⟩
 have hsz : w2.heap.size = w.heap.size + 2 := h2.size
 refine FnV.mono (hG (fun k => S0 k ∨ w.heap.size ≤ k) (fun i w' => J i w' ∧ LoopAt w' (w.heap.size + 1) w.heap.size lp) (yieldV (w.heap.size + 1)) w2 ?_ ⟨h0 w2 hX2 hsz, hL2⟩ ?_ ?_ ?_) ?_ (fun _ _ h => h)
 ·intro k hk hs
  have := hF k hk
  rcases hs with hs | hs
  ·exact this.1 hs
  ·omega
 ·rintro i w' ⟨hj, -⟩
  exact (hX.trans (hJS i w' hj)).mono fun k _ h => .inl h
 ·rintro i u u' ⟨hj, hl⟩ e
  exact ⟨hJup i u u' hj (ExtB.of_ext e), hl.up e⟩
 ·rintro i x u hx ⟨hj, hl⟩
  refine Yield.run (env := env) hl.l hfn hst (params := params.toList) (assign := assign) (body := body) (by simpa using hlp) (hlen x (List.mem_of_getElem? hx)) hp rfl ?_
  intro a' ha' cs
  obtain ⟨o, a1, u1, hq, hfin⟩ := hb i x u lp hx hj hl hlp.state a' ha' cs
  refine ⟨o, a1, u1, ?_, hfin⟩
  cases o with
  | fall =>
   obtain ⟨hK, hl1⟩ := hq
   refine ⟨_, hl1.l, fun u2 t2 => ⟨rfl, hJup _ _ _ hK (t2.ext.mono fun k _ h => .inr h), ?_, obj_ext hl1.d t2.ext (by omega)⟩⟩
   have := t2.at_
   rwa [show ({ ({ lp with state := .busy } : Loop) with state := .ready, pending := none } : Loop) = lp from hlp.back] at this
  | ret => exact hq.elim
  | exit id => exact hq.elim
  | panic ch => exact hq.elim
 ·rintro _ w3 ⟨hj, hl⟩
  refine ⟨lp, hl.l, by rw [hlp.state]; rfl, fun w4 t4 => ?_⟩
  rw [hlp.pending]
  refine RunE.at_ hst (h w4 (hJup _ _ _ hj (t4.ext.mono fun k _ h => .inr h)) (obj_ext hl.d t4.ext (by omega)))
end
theorem filter_take {α : Type} (p : α → Bool) {l : List α} {i : Nat} {x : α} (hx : l[i]? = some x) :
  (l.take (i + 1)).filter p = (l.take i).filter p ++ (if p x then [x] else []) ∧ (p x = true → (l.filter p)[((l.take i).filter p).length]? = some x) := by
 have e1 : l.take (i + 1) = l.take i ++ [x] := by rw [List.take_add_one, hx]; rfl
 have e2 : l = l.take i ++ x :: l.drop (i + 1) := by
  obtain ⟨hi, e⟩ := List.getElem?_eq_some_iff.1 hx
  rw [← e, List.getElem_cons_drop, List.take_append_drop]
 refine ⟨by rw [e1, List.filter_append]; congr 1; cases h : p x <;> simp [h], fun hp => ?_⟩
 have e3 : l.filter p = (l.take i).filter p ++ x :: (l.drop (i + 1)).filter p := by
  conv => lhs; rw [e2]
  rw [List.filter_append, List.filter_cons, if_pos hp]
 rw [e3, List.getElem?_append_right (Nat.le_refl _)]; simp
end Go.Rn
end
section
set_option maxRecDepth 4000
namespace Go.Rn
open Go.RowKit
def GivesK {β : Type} (P : Program) (f : Value) (ok : List β → Prop) (en : β → List Value) (w0 : World) (F : Nat → Prop) : Prop :=
 ∀ (S : Nat → Prop) (J : (Nat → Prop) → List β → World → Prop) (y : Value) (w : World), (∀ k, F k → ¬ S k) → ExtB S w0 w → (∀ G w1, Ext w w1 → (∀ k, G k → w.heap.size ≤ k ∧ k < w1.heap.size) → J G [] w1) →
  (∀ G ys w1, J G ys w1 → ExtB S w0 w1) → (∀ G ys w1 w2, J G ys w1 → ExtB G w1 w2 → J G ys w2) →
  (∀ G ys x zs w1, ok (ys ++ x :: zs) → J G ys w1 → FnV P y (en x) w1 (fun r w2 => r = .bool true ∧ J G (ys ++ [x]) w2 ∧ ∀ k, G k → w2.heap[k]? = w1.heap[k]?) fun _ _ => False) →
  FnV P f [y] w (fun _ w' => ∃ G ys, ok ys ∧ J G ys w') fun _ _ => False
section
variable {P : Program} {c : Ctx} {k : List Item} {Q : Out → Act → World → Prop} {w : World} {n : Nat} {ds : List Deferred} {env : Env}
theorem RunE.rangeGivesK {β : Type} {f : Operand} {params : Array Tmp} {assign body : Code} {fv : Value} {ok : List β → Prop} {en : β → List Value} {w0 : World} {F : Nat → Prop} (hc : c.round = none) (hfn : ∃ g, P.funcs[c.fn]? = some g)
  (hf : evO env f = some fv) (hG : GivesK P fv ok en w0 F) (S0 : Nat → Prop) (hF : ∀ k, F k → ¬ S0 k ∧ k < w.heap.size) (hX : ExtB S0 w0 w)
  (hlen : ∀ x, (en x).length = params.toList.length) (hp : params.toList.all (Nat.blt · n) = true) (J : (Nat → Prop) → List β → World → Prop)
  (h0 : ∀ G w2, Ext w w2 → (∀ k, G k → w.heap.size + 2 ≤ k ∧ k < w2.heap.size) → J G [] w2) (hJS : ∀ G ys w1, J G ys w1 → ExtB S0 w w1) (hit : ∀ G ys w1, J G ys w1 → ∀ k, G k → w.heap.size + 2 ≤ k)
  (hJup : ∀ G ys w1 w2, J G ys w1 → ExtB (fun k => k = w.heap.size ∨ k = w.heap.size + 1 ∨ G k) w1 w2 → J G ys w2)
  (hb : ∀ G ys x zs w1 lp, ok (ys ++ x :: zs) → J G ys w1 → LoopAt w1 (w.heap.size + 1) w.heap.size lp → lp.state = .ready →
   RunE P ⟨c.fn, .normal, some (w.heap.size + 1)⟩ n [] [.code assign, .beginRound, .code body] (RoundJ (w.heap.size + 1) w.heap.size lp fun w2 => J G (ys ++ [x]) w2 ∧ ∀ k, G k → w2.heap[k]? = w1.heap[k]?) (parEnv params.toList (en x) env) w1)
  (h : ∀ G ys w', ok ys → J G ys w' → w'.heap[w.heap.size]? = some (.deferred (some [])) → RunE P c n (markOf w.heap.size :: ds) k Q env w') :
  RunE P c n ds (.code (.rangeFunc f params assign body) :: k) Q env w := by
 refine RunE.rangeFunc hc hf fun a D L w1 w2 lp hst h1 h2 hlp => ?_
 obtain rfl : D = w.heap.size := h1.eq
 have e2 := h2.eq
 rw [h1.size] at e2
 subst e2
 have hX2 : Ext w w2 := h1.ext.trans h2.ext
 have hL2 : LoopAt w2 (w.heap.size + 1) w.heap.size lp := ⟨h2.at_, obj_ext h1.at_ h2.ext id⟩
 have hsz : w2.heap.size = w.heap.size + 2 := h2.size
 refine FnV.mono (hG (fun k => S0 k ∨ w.heap.size ≤ k) (fun G ys w' => J G ys w' ∧ LoopAt w' (w.heap.size + 1) w.heap.size lp) (yieldV (w.heap.size + 1)) w2 ?_ ?_ ?_ ?_ ?_ ?_) ?_ (fun _ _ h => h)
 ·intro k hk hs
  have := hF k hk
  rcases hs with hs | hs
  ·exact this.1 hs
  ·omega
 ·exact (hX.trans (ExtB.of_ext hX2)).mono fun k _ h => .inl h
 ·intro G u e hG
  exact ⟨h0 G u (hX2.trans e) (fun k hk => by have := hG k hk; omega), hL2.up e⟩
 ·rintro G ys w' ⟨hj, -⟩
  exact (hX.trans (hJS G ys w' hj)).mono fun k _ h => .inl h
 ·rintro G ys u u' ⟨hj, hl⟩ e
  have := hit G ys u hj
  exact ⟨hJup G ys u u' hj (e.mono fun k _ h => .inr (.inr h)), hl.ext e (fun h => by have := this _ h; omega) (fun h => by have := this _ h; omega)⟩
 ·rintro G ys x zs u hx ⟨hj, hl⟩
  have hit' := hit G ys u hj
  refine Yield.run (env := env) hl.l hfn hst (params := params.toList) (assign := assign) (body := body) (by simpa using hlp) (hlen x) hp rfl ?_
  intro a' ha' cs
  obtain ⟨o, a1, u1, hq, hfin⟩ := hb G ys x zs u lp hx hj hl hlp.state a' ha' cs
  refine ⟨o, a1, u1, ?_, hfin⟩
  cases o with
  | fall =>
   obtain ⟨⟨hK, hKi⟩, hl1⟩ := hq
   refine ⟨_, hl1.l, fun u2 t2 => ⟨rfl, ⟨hJup _ _ _ _ hK (t2.ext.mono fun k _ h => .inr (.inl h)), ?_, obj_ext hl1.d t2.ext (by omega)⟩, ?_⟩⟩
   ·have := t2.at_
    rwa [show ({ ({ lp with state := .busy } : Loop) with state := .ready, pending := none } : Loop) = lp from hlp.back] at this
   ·intro it hg
    have := hit' it hg
    rw [← hKi it hg]
    rcases Nat.lt_or_ge it u1.heap.size with hlt | hge
    ·exact t2.ext.block it hlt (by omega)
    ·rw [Array.getElem?_eq_none (by rw [t2.size]; exact hge), Array.getElem?_eq_none hge]
  | ret => exact hq.elim
  | exit id => exact hq.elim
  | panic ch => exact hq.elim
 ·rintro _ w3 ⟨G, ys, hys, hj, hl⟩
  refine ⟨lp, hl.l, by rw [hlp.state]; rfl, fun w4 t4 => ?_⟩
  rw [hlp.pending]
  refine RunE.at_ hst (h G ys w4 hys (hJup _ _ _ _ hj (t4.ext.mono fun k _ h => .inr (.inl h))) (obj_ext hl.d t4.ext (by omega)))
end
end Go.Rn
end
section
set_option maxRecDepth 4000
namespace Go.Rn
open Go.RowKit Go.Sort Go.Proofs Go.Rec
theorem ext_grow {w w' : World} (h : Ext w w') : ∃ q os, w' = grow (w.drewN q) os := by
 refine ⟨w'.drawn - w.drawn, w'.heap.extract w.heap.size, ?_⟩
 obtain ⟨hp, tp, dr, os, ou⟩ := w
 obtain ⟨hp', tp', dr', os', ou'⟩ := w'
 obtain ⟨h1, h2, h3, h4, h5, h6⟩ := h
 simp only at h1 h2 h3 h4 h5 h6
 subst h2; subst h3; subst h4
 unfold grow World.drewN
 simp only
 congr 1
 ·apply Array.ext_getElem?
  intro k
  rcases Nat.lt_or_ge k hp.size with hk | hk
  ·rw [h6 k hk id, Array.getElem?_append_left hk]
  ·rw [Array.getElem?_append_right hk, Array.getElem?_extract]
   split
   ·congr 1; omega
   ·rw [Array.getElem?_eq_none]; omega
 ·omega
theorem get_grow {w : World} {os : Array Obj} {k : Nat} (hk : k < w.heap.size) : (grow w os).heap[k]? = w.heap[k]? := by
 unfold grow; simp only; rw [Array.getElem?_append_left hk]
section
variable {α : Type} [Inhabited α] {enc : α → List Value} {k : Nat}
theorem ext_sortWorld {w : World} {blk off m : Nat} {d : Array α} {os : Array Obj} : ExtB (· = blk) w (sortWorldK enc k w blk off m d os) := by
 unfold sortWorldK putRowK putRow mapBlock
 refine ⟨?_, rfl, rfl, rfl, ?_, fun i hi hn => ?_⟩
 ·show w.drawn ≤ w.drawn + m; omega
 ·show w.heap.size ≤ (w.heap.modify _ _ ++ os).size
  simp
 ·rw [get_grow (by simpa [Sort.ahead] using hi)]
  simp only [Sort.ahead]
  rw [Array.getElem?_modify, if_neg (fun h => hn h.symm)]
theorem flatK_get (h : EncOk enc k) {d : Array α} {t : Nat} (ht : t < d.size * k) : (flat enc d.toList)[t]? = some (flatK enc k d)[t]! := by
 rw [get_flatK enc k d t ht]
 have hq : t / k < d.size := Nat.div_lt_of_lt_mul (by rw [Nat.mul_comm]; exact ht)
 have hm : t % k < k := Nat.mod_lt _ h.pos
 have hlen := h.len d[t / k]
 have hx : d.toList[t / k]? = some d[t / k] := by rw [Array.getElem?_toList, Array.getElem?_eq_getElem hq]
 have hdrop : d.toList.drop (t / k) = d[t / k] :: d.toList.drop (t / k + 1) := by
  rw [List.drop_eq_getElem_cons (by simpa using hq)]; simp
 have e := congrArg (·[t % k]?) (flat_drop h d.toList (t / k))
 simp only [List.getElem?_drop] at e
 rw [show t / k * k + t % k = t by rw [Nat.mul_comm]; exact Nat.div_add_mod t k, hdrop, flat_cons, List.getElem?_append_left (by omega)] at e
 rw [e, getElem!_pos d (t / k) hq, getElem!_pos _ (t % k) (by omega)]
 exact List.getElem?_eq_getElem _
theorem holds_of {w : World} {g n cap : Nat} {base : Nat} {e : TypeId} {d : Array α} (h : EncOk enc k) (hO : w.ownsRow base e k (.slice (some ⟨g, 0, none⟩) n cap) n (flat enc d.toList)) (hn : d.size = n) : HoldsK enc k w g 0 d := by
 intro j hj
 rw [size_flatK] at hj
 rcases hO.2 with ⟨h0, -⟩ | ⟨g', cap', cur, he, hbg, hg, hnc, hcm, hcs, htake⟩
 ·simp at h0
 ·simp at he
  obtain ⟨rfl, rfl⟩ := he
  have hget := flatK_get h hj
  rw [← htake, List.getElem?_take] at hget
  split at hget
  ·refine ⟨?_, ?_⟩
   ·unfold World.cell?
    rw [hg]
    simpa using hget
   ·unfold World.frozen?
    rw [hg]; simp
  ·simp at hget
theorem isL_holds {w : World} {g cap : Nat} {d : Array α} (h : EncOk enc k) (hH : HoldsK enc k w g 0 d) (hc : d.size ≤ cap) : IsL w enc k (.slice (some ⟨g, 0, none⟩) d.size cap) d.toList := by
 have hl := flat_length h d.toList
 have hr : Row w g 0 (flat enc d.toList) := fun i v hv => by
  have hi : i < d.size * k := by
   rcases Nat.lt_or_ge i (flat enc d.toList).length with h' | h'
   ·rw [hl] at h'; simpa using h'
   ·rw [List.getElem?_eq_none h'] at hv; simp at hv
  have := (hH i (by rw [size_flatK]; exact hi)).1
  rw [flatK_get h hi] at hv
  cases hv
  exact this
 have := IsSl.row (sz := k) (n := d.size) (cap := cap) hr (by rw [hl]; simp) hc
 simpa [IsL] using this
end
end Go.Rn
end
section
set_option maxRecDepth 4000
namespace Go.Rn
open Go.RowKit
section
variable {P : Program} {c : Ctx} {k : List Item} {Q : Out → Act → World → Prop} {w : World} {n : Nat} {ds : List Deferred} {env : Env}
variable {ops : Array Oper} {d : Tmp} {rest : List Oper}
theorem RunLN.chk {kd : IntKind} {m : Int} (h : RunLN P c n ds ops rest k Q env w d (.int kd m)) : RunLN P c n ds ops rest k Q env w d (.int kd m) := h
end
section
variable {P : Program} {c : Ctx} {k : List Item} {Q : Out → Act → World → Prop} {w0 : World} {n : Nat} {ds : List Deferred} {env : Env} {S : Nat → Prop} {sats pres : List (Nat × Pred)} {ph : Option (Option Nat × Pred)} {mu : List Bool} {l rest : List Oper} {d : Tmp}
theorem AsyN.chk {kd : IntKind} {m : Int} (h : AsyN P c n ds S w0 l k Q rest env sats ph mu pres d (.int kd m)) : AsyN P c n ds S w0 l k Q rest env sats ph mu pres d (.int kd m) := h
end
end Go.Rn
end
section
set_option maxRecDepth 4000
namespace Go.Rn
open Go.RowKit
section
variable {P : Program} {c : Ctx} {k : List Item} {Q : Out → Act → World → Prop} {w : World} {n : Nat} {ds : List Deferred} {env : Env}
variable {ops : Array Oper} {d : Tmp} {rest : List Oper}
def plainOp : Op → Bool
 | .move _ | .assign _ | .pick .. | .field .. | .fieldAddr .. | .extract .. | .build .. | .makeFunc .. | .makeInterface .. | .nilCheck _ | .unOp .not _ _ => true
 | _ => false
def manyR (T : Tab) (n : Nat) (ops : List Oper) : Env → List Oper → Option (Env × List Oper)
 | env, [] => some (env, [])
 | env, o :: r =>
  match o.dst with
  | none => some (env, o :: r)
  | some d =>
   match Nat.blt d n with
   | false => some (env, o :: r)
   | true =>
    match wantE ops env o with
    | some false => manyR T n ops ((d, undef) :: env) r
    | some true =>
     match plainOp o.op with
     | false => some (env, o :: r)
     | true => match evalOp T env o.op with
      | some v => manyR T n ops ((d, v) :: env) r
      | none => some (env, o :: r)
    | none => some (env, o :: r)
def manyO (T : Tab) (n : Nat) (ops : List Oper) : Env → List Oper → Option (Env × List Oper)
 | _, [] => none
 | env, o :: r =>
  match o.dst with
  | none => none
  | some d =>
   match Nat.blt d n with
   | false => none
   | true =>
    match wantE ops env o with
    | some false => manyR T n ops ((d, undef) :: env) r
    | some true =>
     match plainOp o.op with
     | false => none
     | true => match evalOp T env o.op with
      | some v => manyR T n ops ((d, v) :: env) r
      | none => none
    | none => none
theorem manyR_ok {T : Tab} (hT : T.Ok P) : ∀ (l : List Oper) {env env' : Env} {r : List Oper}, manyR T n ops.toList env l = some (env', r) → RunL P c n ds ops r k Q env' w → RunL P c n ds ops l k Q env w := by
 intro l
 induction l with
 | nil => intro env env' r h h'; simp only [manyR, Option.some.injEq, Prod.mk.injEq] at h; obtain ⟨rfl, rfl⟩ := h; exact h'
 | cons o r0 ih =>
  obtain ⟨dst, op, ty, pos, after, guard⟩ := o
  intro env env' r h h'
  have same : some (env, (⟨dst, op, ty, pos, after, guard⟩ : Oper) :: r0) = some (env', r) → RunL P c n ds ops (⟨dst, op, ty, pos, after, guard⟩ :: r0) k Q env w := fun h => by
   simp only [Option.some.injEq, Prod.mk.injEq] at h; obtain ⟨rfl, rfl⟩ := h; exact h'
  cases dst with
  | none => exact same h
  | some d =>
   simp only [manyR] at h
   cases hb : Nat.blt d n with
   | false => rw [hb] at h; exact same h
   | true =>
    rw [hb] at h
    simp only at h
    cases hw : wantE ops.toList env ⟨some d, op, ty, pos, after, guard⟩ with
    | none => rw [hw] at h; exact same h
    | some b =>
     rw [hw] at h
     cases b with
     | false => exact .unwantedD hw hb (ih h h')
     | true =>
      simp only at h
      cases hp : plainOp op with
      | false => rw [hp] at h; exact same h
      | true =>
       rw [hp] at h
       simp only at h
       cases hv : evalOp T env op with
       | none => rw [hv] at h; exact same h
       | some v => rw [hv] at h; exact .pure hT hw hb hv (ih h h')
theorem RunL.many {T : Tab} (hT : T.Ok P) {l r : List Oper} {env' : Env} (h : manyO T n ops.toList env l = some (env', r)) (h' : RunL P c n ds ops r k Q env' w) : RunL P c n ds ops l k Q env w := by
 refine manyR_ok (env' := env') (r := r) hT l ?_ h'
 cases l with
 | nil => simp [manyO] at h
 | cons o r0 =>
  simp only [manyO] at h
  simp only [manyR]
  cases hd : o.dst with
  | none => rw [hd] at h; simp at h
  | some d =>
   rw [hd] at h
   simp only at h ⊢
   cases hb : Nat.blt d n with
   | false => rw [hb] at h; simp at h
   | true =>
    rw [hb] at h
    simp only at h ⊢
    cases hw : wantE ops.toList env o with
    | none => rw [hw] at h; simp at h
    | some b =>
     rw [hw] at h
     cases b with
     | false => exact h
     | true =>
      simp only at h ⊢
      cases hp : plainOp o.op with
      | false => rw [hp] at h; simp at h
      | true =>
       rw [hp] at h
       simp only at h ⊢
       cases hv : evalOp T env o.op with
       | none => rw [hv] at h; simp at h
       | some v => rw [hv] at h; exact h
theorem RunL.id {l : List Oper} (h : RunL P c n ds ops l k Q env w) : RunL P c n ds ops l k Q env w := h
theorem RunLN.id {v : Value} (h : RunLN P c n ds ops rest k Q env w d v) : RunLN P c n ds ops rest k Q env w d v := h
def notB : Value → Bool
 | .bool _ => false
 | _ => true
theorem RunLN.isB {m : Bool} (h : RunLN P c n ds ops rest k Q env w d (.bool m)) : RunLN P c n ds ops rest k Q env w d (.bool m) := h
theorem RunLN.anyX {v : Value} (_ : notB v = true) (h : RunL P c n ds ops rest k Q ((d, v) :: env) w) : RunLN P c n ds ops rest k Q env w d v := h
end
section
variable {P : Program} {c : Ctx} {k : List Item} {Q : Out → Act → World → Prop} {w0 : World} {n : Nat} {ds : List Deferred} {env : Env} {S : Nat → Prop} {sats pres : List (Nat × Pred)} {ph : Option (Option Nat × Pred)} {mu : List Bool} {l rest : List Oper} {d : Tmp}
theorem AsyN.id {v : Value} (h : AsyN P c n ds S w0 l k Q rest env sats ph mu pres d v) : AsyN P c n ds S w0 l k Q rest env sats ph mu pres d v := h
theorem Asy.id {s : Know} (h : Asy P c n ds S w0 l k Q rest s) : Asy P c n ds S w0 l k Q rest s := h
theorem AsyN.isB {m : Bool} (h : AsyN P c n ds S w0 l k Q rest env sats ph mu pres d (.bool m)) : AsyN P c n ds S w0 l k Q rest env sats ph mu pres d (.bool m) := h
theorem AsyN.anyX {v : Value} (_ : notB v = true) (h : Asy P c n ds S w0 l k Q rest ⟨(d, v) :: env, sats, ph, false :: mu, pres⟩) : AsyN P c n ds S w0 l k Q rest env sats ph mu pres d v := h
end
def resV (env : Env) : List ResultVar → Option (List Value)
 | [] => some []
 | .tmp t :: r => match env.get t with
  | some v => match resV env r with
   | some vs => some (v :: vs)
   | none => none
  | none => none
 | _ => none
theorem resV_ok {P : Program} {w : World} {env : Env} : ∀ {l : List ResultVar} {vs : List Value}, resV env l = some vs → ResOk P w env l vs
 | [], _, h => by simp only [resV, Option.some.injEq] at h; subst h; exact .nil
 | .tmp t :: r, vs, h => by
  simp only [resV] at h
  split at h
  ·rename_i hv
   split at h
   ·rename_i hr
    simp only [Option.some.injEq] at h; subst h
    exact .tmp hv (resV_ok hr)
   ·simp at h
  ·simp at h
 | .cell .. :: r, _, h => by simp [resV] at h
theorem retT {P : Program} {w : World} {c : Ctx} {n : Nat} {k : List Item} {g : FuncId} {fn : Func} {R : Value → World → Prop} {X : List PanicEntry → World → Prop} {env : Env} {vs : List Value} (hf : P.funcs[g]? = some fn) (hr : resV env fn.results.toList = some vs) (h : R (oneOr vs) w) :
  RunE P c n [] (.code .ret :: k) (FnQ P g R X) env w := .retFn hf (resV_ok hr) h
theorem falT {P : Program} {w : World} {c : Ctx} {n : Nat} {g : FuncId} {fn : Func} {R : Value → World → Prop} {X : List PanicEntry → World → Prop} {env : Env} {vs : List Value} (hf : P.funcs[g]? = some fn) (hr : resV env fn.results.toList = some vs) (h : R (oneOr vs) w) :
  RunE P c n [] [] (FnQ P g R X) env w := .fallFn hf (resV_ok hr) h
theorem OpV.loadQ {P : Program} {w : World} {env : Env} {dst : Option Tmp} {ty : TypeId} {pos : String} {after : Array Edge} {guard : Option (Nat × Bool)} {T : Tab} (hT : T.Ok P) {t : TypeId} {i : TI} {x : Operand} {b o : Nat} {cs : List Value} (ht : T.get t = some i) (ha : i.agg = true) (hx : evO env x = some (.pointer (some ⟨b, o, none⟩)))
  (h : Row w b o cs) (hl : cs.length = i.size) : OpV P env w ⟨dst, .load t x, ty, pos, after, guard⟩ (.agg cs.toArray) := .loadN hT ht ha hx hl h
theorem OpV.evp {P : Program} {w : World} {env : Env} {T : Tab} (hT : T.Ok P) {o : Oper} {v : Value} (h : evalOp T env o.op = some v) : OpV P env w o v := fun _ hρ => evalOp_ok hT hρ h
theorem Added.turn {w w1 w2 : World} {B : Nat} {o o' : Obj} (h : Added w w1 B o) (t : Turned w1 w2 B o') : Added w w2 B o' :=
 ⟨h.eq, t.size.trans h.size, h.ext.write t.ext (by intro i hi hlt; have := h.eq; omega), t.at_⟩
end Go.Rn
namespace Go.Rn
theorem eval_quo {T : Tab} {env : Env} {t u : TypeId} {x y : Operand} {a b : Int} (hx : evO env x = some (.int .i64 a)) (hy : evO env y = some (.int .i64 b)) (ha : 0 ≤ a) (ha' : a < 9223372036854775808) (hb : 1 ≤ b) : evalOp T env (.binOp .quo t x y u) = some (.int .i64 (a / b)) := by
 obtain ⟨n, rfl⟩ : ∃ n : Nat, b = ((n + 1 : Nat) : Int) := ⟨(b - 1).toNat, by omega⟩
 have h := wq_i64 ha ha' hb
 unfold evalOp
 simp only [hx, hy]
 rw [← h]
 rfl
theorem OpV.quo {P : Program} {w : World} {env : Env} {dst : Option Tmp} {ty : TypeId} {pos : String} {after : Array Edge} {guard : Option (Nat × Bool)} {T : Tab} (hT : T.Ok P) {t u : TypeId} {x y : Operand} {a b : Int} (hx : evO env x = some (.int .i64 a)) (hy : evO env y = some (.int .i64 b)) (ha : 0 ≤ a) (ha' : a < 9223372036854775808) (hb : 1 ≤ b) :
  OpV P env w ⟨dst, .binOp .quo t x y u, ty, pos, after, guard⟩ (.int .i64 (a / b)) := .evp hT (eval_quo hx hy ha ha' hb)
end Go.Rn
namespace Go.Sg
open Go.Rn Go.Proofs Go.RowKit
theorem isSl_ownlt {w : World} {base : Nat} {e : TypeId} {sz n : Nat} {v : Value} {xs : List Value} (h : w.ownsRow base e sz v n xs) {j : Nat} (hj : v.ownBlock = some j) : j < w.heap.size := by
 rcases h.2 with ⟨rfl, -⟩ | ⟨g, c, cur, rfl, -, hg, -⟩
 ·simp [Value.ownBlock] at hj
 ·simp [Value.ownBlock] at hj; subst hj; exact lt_of_get hg
theorem mix' : Tryz.prog.follows .mixedOrders = true := by kernel_rfl
section
variable {w w' : World} {b o i : Nat} {cs : List Value} {v : Value} {t : TypeId}
theorem ldB (h : Blk w b cs t) (hv : cs[i]? = some v) (e : Ext w w') : w'.cell? ⟨b, i, none⟩ = some v := (h.up e).cell hv
theorem ldN (h : Blk w b cs t) (e : Ext w w') : Row w' b 0 cs := (h.up e).row
theorem ldR0 (h : Row w b o (v :: cs)) (e : Ext w w') : w'.cell? ⟨b, o, none⟩ = some v := (h.up e) 0 v rfl
theorem ldR (h : Row w b o cs) (hv : cs[i]? = some v) (e : Ext w w') : w'.cell? ⟨b, o + i, none⟩ = some v := (h.up e) i v hv
theorem ldRN (h : Row w b o cs) (e : Ext w w') : Row w' b o cs := h.up e
theorem ldS {S : Nat → Prop} (h : ∀ w', ExtB S w w' → Blk w' b cs t) (hv : cs[i]? = some v) (e : ExtB S w w') : w'.cell? ⟨b, i, none⟩ = some v := (h w' e).cell hv
theorem ldNS {S : Nat → Prop} (h : ∀ w', ExtB S w w' → Blk w' b cs t) (e : ExtB S w w') : Row w' b 0 cs := (h w' e).row
theorem xt (h : Ext w w' := by (first | ((repeat (first | exact Go.Rn.ExtB.refl _ _ | assumption | refine Go.Rn.ExtB.trans (by assumption) ?_)) <;> fail) | fail)) : Ext w w' := h
end
class Pf (g : FuncId) (vs : List Value) (v : outParam Value) : Prop where
 ok : ∀ w, Rets Tryz.prog g vs w fun u w' => u = v ∧ w = w'
class Px (g : FuncId) (vs : List Value) (v : outParam Value) : Prop where
 ok : ∀ w, Rets Tryz.prog g vs w fun u w' => u = v ∧ Ext w w'
section
variable {c : Ctx} {k : List Item} {Q : Out → Act → World → Prop} {w : World} {n : Nat} {ds : List Deferred} {env : Env}
variable {ops : Array Oper} {d : Tmp} {ty : TypeId} {pos : String} {after : Array Edge} {guard : Option (Nat × Bool)} {rest : List Oper}
variable {g : FuncId} {args : Array Operand} {ts : Array TypeId} {vs : List Value} {v : Value}
theorem pfN (hw : wantE ops.toList env ⟨some d, .call ⟨.value (.func g), args, ts⟩, ty, pos, after, guard⟩ = some true) (hdst : Nat.blt d n = true) (ha : evL env args.toList = some vs) [hi : Pf g vs v]
  (h : RunLN Tryz.prog c n ds ops rest k Q env w d v) : RunL Tryz.prog c n ds ops (⟨some d, .call ⟨.value (.func g), args, ts⟩, ty, pos, after, guard⟩ :: rest) k Q env w := .callN hw hdst ha (hi.ok w) h
theorem pxN (hw : wantE ops.toList env ⟨some d, .call ⟨.value (.func g), args, ts⟩, ty, pos, after, guard⟩ = some true) (hdst : Nat.blt d n = true) (ha : evL env args.toList = some vs) [hi : Px g vs v]
  (h : ∀ w', Ext w w' → RunLN Tryz.prog c n ds ops rest k Q env w' d v) : RunL Tryz.prog c n ds ops (⟨some d, .call ⟨.value (.func g), args, ts⟩, ty, pos, after, guard⟩ :: rest) k Q env w :=
 .call hw hdst ha (hi.ok w) fun _ w' hh => by obtain ⟨rfl, e⟩ := hh; exact h w' e
variable {f : Operand} {fi ca av : List Value}
theorem pvN (hw : wantE ops.toList env ⟨some d, .call ⟨.value f, args, ts⟩, ty, pos, after, guard⟩ = some true) (hdst : Nat.blt d n = true) (hf : evO env f = some (.func (.func g) fi.toArray ca.toArray)) (ha : evL env args.toList = some av) (hs : force (fi ++ av ++ ca) some = some vs) (hi : Pf g vs v)
  (h : RunLN Tryz.prog c n ds ops rest k Q env w d v) : RunL Tryz.prog c n ds ops (⟨some d, .call ⟨.value f, args, ts⟩, ty, pos, after, guard⟩ :: rest) k Q env w :=
 .callV hw hdst hf ha (X := fun _ _ => False) (RetsX.v (by rw [force_eq] at hs; rw [Option.some.inj hs]; exact hi.ok w)) (fun _ _ _ h => h.elim) fun _ w' hh => by obtain ⟨rfl, rfl⟩ := hh; exact h
theorem pvX (hw : wantE ops.toList env ⟨some d, .call ⟨.value f, args, ts⟩, ty, pos, after, guard⟩ = some true) (hdst : Nat.blt d n = true) (hf : evO env f = some (.func (.func g) fi.toArray ca.toArray)) (ha : evL env args.toList = some av) (hs : force (fi ++ av ++ ca) some = some vs) (hi : Px g vs v)
  (h : ∀ w', Ext w w' → RunLN Tryz.prog c n ds ops rest k Q env w' d v) : RunL Tryz.prog c n ds ops (⟨some d, .call ⟨.value f, args, ts⟩, ty, pos, after, guard⟩ :: rest) k Q env w :=
 .callV hw hdst hf ha (X := fun _ _ => False) (RetsX.v (by rw [force_eq] at hs; rw [Option.some.inj hs]; exact hi.ok w)) (fun _ _ _ h => h.elim) fun _ w' hh => by obtain ⟨rfl, e⟩ := hh; exact h w' e
end
section
variable {c : Ctx} {k : List Item} {Q : Out → Act → World → Prop} {w0 : World} {n : Nat} {ds : List Deferred} {env : Env} {S : Nat → Prop} {sats pres : List (Nat × Pred)} {ph : Option (Option Nat × Pred)} {mu : List Bool}
variable {l : List Oper} {d : Tmp} {op : Op} {ty : TypeId} {pos : String} {after : Array Edge} {guard : Option (Nat × Bool)} {rest : List Oper}
variable {g : FuncId} {args : Array Operand} {ts : Array TypeId} {vs : List Value} {v : Value}
theorem pfA (hw : wantE l env ⟨some d, .call ⟨.value (.func g), args, ts⟩, ty, pos, after, guard⟩ = some true) (hdst : Nat.blt d n = true) (ha : evL env args.toList = some vs) [hi : Pf g vs v]
  (h : AsyN Tryz.prog c n ds S w0 l k Q rest env sats ph mu pres d v) : Asy Tryz.prog c n ds S w0 l k Q (⟨some d, .call ⟨.value (.func g), args, ts⟩, ty, pos, after, guard⟩ :: rest) ⟨env, sats, ph, mu, pres⟩ :=
 .callN hw hdst ha (fun w' _ => (hi.ok w').mono fun _ _ h => ⟨h.1, by rw [h.2]; exact ExtB.refl _ _⟩) h
theorem pfX (hw : wantE l env ⟨some d, .call ⟨.value (.func g), args, ts⟩, ty, pos, after, guard⟩ = some true) (hdst : Nat.blt d n = true) (ha : evL env args.toList = some vs) [hi : Px g vs v]
  (h : AsyN Tryz.prog c n ds S w0 l k Q rest env sats ph mu pres d v) : Asy Tryz.prog c n ds S w0 l k Q (⟨some d, .call ⟨.value (.func g), args, ts⟩, ty, pos, after, guard⟩ :: rest) ⟨env, sats, ph, mu, pres⟩ :=
 .callN hw hdst ha (fun w' _ => hi.ok w') h
variable {f : Operand} {fi ca av : List Value}
theorem pvA (hw : wantE l env ⟨some d, .call ⟨.value f, args, ts⟩, ty, pos, after, guard⟩ = some true) (hdst : Nat.blt d n = true) (hf : evO env f = some (.func (.func g) fi.toArray ca.toArray)) (ha : evL env args.toList = some av) (hs : force (fi ++ av ++ ca) some = some vs) (hi : Px g vs v)
  (h : AsyN Tryz.prog c n ds S w0 l k Q rest env sats ph mu pres d v) : Asy Tryz.prog c n ds S w0 l k Q (⟨some d, .call ⟨.value f, args, ts⟩, ty, pos, after, guard⟩ :: rest) ⟨env, sats, ph, mu, pres⟩ :=
 .val hw hdst rfl rfl (fun w' _ => OpE.callV hf ha (RetsX.v (by rw [force_eq] at hs; rw [Option.some.inj hs]; exact hi.ok w'))) h
end
end Go.Sg
end
section
set_option maxRecDepth 4000
namespace Go.Rn
open Go.RowKit
section
variable {α : Type} [DecidableEq α] {kv : α → Value} {good : α → Prop}
variable {P : Program} {w : World} {env : Env} {dst : Option Tmp} {ty : TypeId} {pos : String} {after : Array Edge} {guard : Option (Nat × Bool)}
end
end Go.Rn
end
section
set_option maxRecDepth 4000
namespace Go.Rn
open Go.RowKit
def MapW {α β : Type} [DecidableEq α] (w : World) (R : Nat) (kv : α → Value) (ev : β → Value) (m : List (α × β)) : Prop := MapK kv (fun _ => True) w R (m.map fun x => (x.1, ev x.2))
section
variable {α β : Type} [DecidableEq α] {kv : α → Value} {ev : β → Value} {w w' : World} {R : Nat} {m : List (α × β)}
theorem MapW.ext {S : Nat → Prop} (h : MapW w R kv ev m) (e : ExtB S w w') (hn : ¬ S R) : MapW w' R kv ev m := MapK.ext h e hn
theorem MapW.up (h : MapW w R kv ev m) (e : Ext w w') : MapW w' R kv ev m := h.ext e id
theorem MapW.lt (h : MapW w R kv ev m) : R < w.heap.size := MapK.lt h
theorem MapW.ne {b : Nat} {cs : List Value} {t : TypeId} (h : MapW w R kv ev m) (z : Blk w b cs t) : b ≠ R := fun e => by
 subst e
 obtain ⟨es, c, h1, -⟩ := h
 unfold Blk at z
 rw [h1] at z; simp at z
end
structure MapT (P : Program) (t : TypeId) {α β : Type} (kv : α → Value) (ev : β → Value) (z : β) [DecidableEq α] : Prop where
 ok : ∃ kt et, P.underlying t = some (.map kt et) ∧ KeyOk P kt kv (fun _ => True) ∧ (P.info? et).bind (·.zero) = some (ev z)
end Go.Rn
namespace Go.Sg
open Go.Rn Go.Proofs Go.RowKit Go.Rec
class KeyOf {α : Type} (kv : α → Value) (v : Value) (k : outParam α) : Prop where
 eq : kv k = v
instance iAuM_1 (n : Int) : KeyOf (Value.int .i64) (.int .i64 n) n := ⟨rfl⟩
class MapA (t : TypeId) {α β : Type} [DecidableEq α] (kv : α → Value) (ev : β → Value) (z : outParam β) : Prop where
 ok : MapT Tryz.prog t kv ev z
section
variable {w : World} {env : Env} {dst : Option Tmp} {ty : TypeId} {pos : String} {after : Array Edge} {guard : Option (Nat × Bool)}
variable {α β : Type} [DecidableEq α] {kv : α → Value} {ev : β → Value} {w' : World} {R : Nat} {m : List (α × β)} {z : β} {k : α} {v : Value} {t : TypeId} {x y zz : Operand}
theorem lk2 (hx : evO env x = some (.map (some R))) (hy : evO env y = some v) (hM : MapW w' R kv ev m) (e : Ext w' w) (ht : MapA t kv ev z) (hk : KeyOf kv v k) :
  OpV Tryz.prog env w ⟨dst, .lookup t x y true, ty, pos, after, guard⟩ (.tuple #[ev ((getM k m).getD z), .bool (getM k m).isSome]) := by
 obtain ⟨kt, et, h1, h2, h3⟩ := ht.ok.ok
 have hk := hk.eq; subst hk
 have h := OpV.lookup2 (P := Tryz.prog) (dst := dst) (ty := ty) (pos := pos) (after := after) (guard := guard) h1 h2 h3 hx hy trivial (hM.up e)
 have e1 : (getM k (m.map fun x => (x.1, ev x.2))).getD (ev z) = ev ((getM k m).getD z) := by rw [getM_map]; cases getM k m <;> rfl
 have e2 : (getM k (m.map fun x => (x.1, ev x.2))).isSome = (getM k m).isSome := by rw [getM_map]; cases getM k m <;> rfl
 rwa [e1, e2] at h
theorem lk1 (hx : evO env x = some (.map (some R))) (hy : evO env y = some v) (hM : MapW w' R kv ev m) (e : Ext w' w) (ht : MapA t kv ev z) (hk : KeyOf kv v k) :
  OpV Tryz.prog env w ⟨dst, .lookup t x y false, ty, pos, after, guard⟩ (ev ((getM k m).getD z)) := by
 obtain ⟨kt, et, h1, h2, h3⟩ := ht.ok.ok
 have hk := hk.eq; subst hk
 have h := OpV.lookup (P := Tryz.prog) (dst := dst) (ty := ty) (pos := pos) (after := after) (guard := guard) h1 h2 h3 hx hy trivial (hM.up e)
 have e1 : (getM k (m.map fun x => (x.1, ev x.2))).getD (ev z) = ev ((getM k m).getD z) := by rw [getM_map]; cases getM k m <;> rfl
 rwa [e1] at h
theorem lk2s {u : β} (hx : evO env x = some (.map (some R))) (hy : evO env y = some v) (hM : MapW w' R kv ev m) (e : Ext w' w) (ht : MapA t kv ev z) (hk : KeyOf kv v k) (hg : getM k m = some u) :
  OpV Tryz.prog env w ⟨dst, .lookup t x y true, ty, pos, after, guard⟩ (.tuple #[ev u, .bool true]) := by have h := lk2 (dst := dst) (ty := ty) (pos := pos) (after := after) (guard := guard) hx hy hM e ht hk; rw [hg] at h; exact h
theorem lk2n (hx : evO env x = some (.map (some R))) (hy : evO env y = some v) (hM : MapW w' R kv ev m) (e : Ext w' w) (ht : MapA t kv ev z) (hk : KeyOf kv v k) (hg : getM k m = none) :
  OpV Tryz.prog env w ⟨dst, .lookup t x y true, ty, pos, after, guard⟩ (.tuple #[ev z, .bool false]) := by have h := lk2 (dst := dst) (ty := ty) (pos := pos) (after := after) (guard := guard) hx hy hM e ht hk; rw [hg] at h; exact h
theorem lk1s {u : β} (hx : evO env x = some (.map (some R))) (hy : evO env y = some v) (hM : MapW w' R kv ev m) (e : Ext w' w) (ht : MapA t kv ev z) (hk : KeyOf kv v k) (hg : getM k m = some u) :
  OpV Tryz.prog env w ⟨dst, .lookup t x y false, ty, pos, after, guard⟩ (ev u) := by have h := lk1 (dst := dst) (ty := ty) (pos := pos) (after := after) (guard := guard) hx hy hM e ht hk; rw [hg] at h; exact h
theorem lk1n (hx : evO env x = some (.map (some R))) (hy : evO env y = some v) (hM : MapW w' R kv ev m) (e : Ext w' w) (ht : MapA t kv ev z) (hk : KeyOf kv v k) (hg : getM k m = none) :
  OpV Tryz.prog env w ⟨dst, .lookup t x y false, ty, pos, after, guard⟩ (ev z) := by have h := lk1 (dst := dst) (ty := ty) (pos := pos) (after := after) (guard := guard) hx hy hM e ht hk; rw [hg] at h; exact h
theorem lk1S {S : Nat → Prop} {w0 : World} (hx : evO env x = some (.map (some R))) (hy : evO env y = some v) (hM : ∀ w', ExtB S w0 w' → MapW w' R kv ev m) (e : ExtB S w0 w) (ht : MapA t kv ev z) (hk : KeyOf kv v k) :
  OpV Tryz.prog env w ⟨dst, .lookup t x y false, ty, pos, after, guard⟩ (ev ((getM k m).getD z)) := lk1 hx hy (hM w e) (ExtB.refl _ _) ht hk
theorem ms {u : β} {vv : Value} (hx : evO env x = some (.map (some R))) (hy : evO env y = some v) (hv : evO env zz = some vv) (hM : MapW w' R kv ev m) (e : Ext w' w) (ht : MapA t kv ev z) (hk : KeyOf kv v k) (hu : ev u = vv) :
  OpE Tryz.prog env w ⟨dst, .mapUpdate t x y zz, ty, pos, after, guard⟩ (fun _ w' => MapW w' R kv ev (setM k u m) ∧ ExtB (· = R) w w' ∧ w'.heap.size = w.heap.size) fun _ _ => False := by
 obtain ⟨kt, et, h1, h2, h3⟩ := ht.ok.ok
 have hk := hk.eq; subst hk; subst hu
 have h := OpE.mapSet (P := Tryz.prog) (dst := dst) (ty := ty) (pos := pos) (after := after) (guard := guard) h1 h2 hx hy hv trivial (hM.up e)
 rw [setM_map] at h
 exact h
theorem mi {u : β} {vv : Value} (hx : evO env x = some (.map (some R))) (hy : evO env y = some v) (hv : evO env zz = some vv) (hM : MapW w' R kv ev m) (e : Ext w' w) (ht : MapA t kv ev z) (hk : KeyOf kv v k) (hu : ev u = vv) :
  OpE Tryz.prog env w ⟨dst, .insert t x y zz, ty, pos, after, guard⟩ (fun _ w' => MapW w' R kv ev (setM k u m) ∧ ExtB (· = R) w w' ∧ w'.heap.size = w.heap.size) fun _ _ => False := fun ρ hρ => ms (dst := dst) (ty := ty) (pos := pos) (after := after) (guard := guard) hx hy hv hM e ht hk hu ρ hρ
theorem mm {α β : Type} [DecidableEq α] (kv : α → Value) (ev : β → Value) {t : TypeId} : OpE Tryz.prog env w ⟨dst, .makeMap t none, ty, pos, after, guard⟩ (fun v w' => ∃ r, v = .map (some r) ∧ w.heap.size ≤ r ∧ Ext w w' ∧ MapW w' r kv ev []) fun _ _ => False :=
 (OpE.makeMap kv (fun _ => True)).mono (fun _ _ ⟨r, h1, h2, h3⟩ => ⟨r, h1, by rw [h2.eq]; exact Nat.le_refl _, h2.ext, h3⟩) fun _ _ h => h
end
@[reducible] def intC (n : Int) : List Value := [.int .i64 n]
theorem encI : EncOk intC 1 := ⟨fun _ => rfl, fun _ => rfl, by decide⟩
def evInts (env : Env) : List (Nat × Operand) → Nat → Option (List Int)
 | [], _ => some []
 | (i, x) :: r, j => match Nat.beq i j with
  | true => match evO env x with
   | some (.int .i64 n) => match evInts env r (j + 1) with
    | some l => some (n :: l)
    | none => none
   | _ => none
  | false => none
theorem evInts_ok {env : Env} : ∀ {ps : List (Nat × Operand)} {j : Nat} {l : List Int}, evInts env ps j = some l → evParts env ps = some (enumV j (l.map (Value.int .i64)))
 | [], j, l, h => by simp only [evInts, Option.some.injEq] at h; subst h; rfl
 | (i, x) :: r, j, l, h => by
  simp only [evInts] at h
  split at h
  ·rename_i hb
   have := Nat.eq_of_beq_eq_true hb; subst this
   split at h
   ·rename_i hx
    split at h
    ·rename_i hr
     simp only [Option.some.injEq] at h; subst h
     simp only [evParts, hx, evInts_ok hr, List.map_cons, enumV]
    ·simp at h
   ·simp at h
  ·simp at h
def delE : Env → Nat → Option Env
 | [], _ => some []
 | (k, v) :: r, t => match delE r t with
  | some r' => match Nat.beq k t with
   | true => some r'
   | false => some ((k, v) :: r')
  | none => none
theorem delE_sub : ∀ {env env' : Env} {t : Nat}, delE env t = some env' → Sub env' env
 | [], env', t, h => by simp only [delE, Option.some.injEq] at h; subst h; exact Sub.refl _
 | (k, v) :: r, env', t, h => by
  simp only [delE] at h
  split at h
  ·rename_i r' hr
   have ih := delE_sub hr
   have hno : ∀ {r r' : Env}, delE r t = some r' → r'.get t = none := by
    intro r
    induction r with
    | nil => intro r' h; simp only [delE, Option.some.injEq] at h; subst h; rfl
    | cons a r ihr =>
     intro r' h
     obtain ⟨k2, v2⟩ := a
     simp only [delE] at h
     split at h
     ·rename_i r2 hr2
      have := ihr hr2
      split at h
      ·simp only [Option.some.injEq] at h; subst h; exact this
      ·rename_i hb
       simp only [Option.some.injEq] at h; subst h
       simp only [Env.get, hb, cond_false]; exact this
     ·simp at h
   split at h
   ·rename_i hb
    simp only [Option.some.injEq] at h; subst h
    intro s u hs
    have := ih s u hs
    have e := Nat.eq_of_beq_eq_true hb
    subst e
    by_cases hst : k = s
    ·subst hst; rw [hno hr] at hs; simp at hs
    ·rw [Env.get_cons_ne hst]; exact this
   ·simp only [Option.some.injEq] at h; subst h
    intro s u hs
    by_cases hst : k = s
    ·subst hst; rw [Env.get_cons_same] at hs ⊢; exact hs
    ·rw [Env.get_cons_ne hst] at hs ⊢; exact ih s u hs
  ·simp at h
class PLi (g : FuncId) (pre : List Value) (f : outParam (List Int → Value)) : Prop where
 ok : ∀ w v l, IsL w intC 1 v l → l.length ≤ 100000 → Rets Tryz.prog g (pre ++ [v]) w fun u w' => u = f l ∧ Ext w w'
def lastA : List Value → Option (List Value × Value)
 | [] => none
 | [v] => some ([], v)
 | v :: r => match lastA r with
  | some (p, u) => some (v :: p, u)
  | none => none
theorem lastA_ok : ∀ {vs pre : List Value} {v : Value}, lastA vs = some (pre, v) → vs = pre ++ [v]
 | [], _, _, h => by simp [lastA] at h
 | [u], pre, v, h => by simp only [lastA, Option.some.injEq, Prod.mk.injEq] at h; obtain ⟨rfl, rfl⟩ := h; rfl
 | u :: a :: r, pre, v, h => by
  simp only [lastA] at h
  split at h
  ·rename_i hr
   simp only [Option.some.injEq, Prod.mk.injEq] at h; obtain ⟨rfl, rfl⟩ := h
   rw [List.cons_append, ← lastA_ok hr]
  ·simp at h
def lastT : List Operand → Option Nat
 | [] => none
 | [.tmp t] => some t
 | _ :: r => lastT r
section
variable {c : Ctx} {k : List Item} {Q : Out → Act → World → Prop} {w : World} {n : Nat} {ds : List Deferred} {env : Env}
variable {ops : Array Oper} {d : Tmp} {ty : TypeId} {pos : String} {after : Array Edge} {guard : Option (Nat × Bool)} {rest : List Oper}
theorem bsI {t : TypeId} {len : Nat} {parts : Array (Nat × Operand)} {l : List Int} {s b : Nat} {z : List Value} {a u : Bool} (hw : wantE ops.toList env ⟨some d, .buildSlice t len parts, ty, pos, after, guard⟩ = some true) (hdst : Nat.blt d n = true)
  (ht : Tryz.T.get t = some ⟨.slc 1 false 3, s, b, z, a, u⟩) (hp : evInts env parts.toList 0 = some l) (hl : l.length = len) (hb : Nat.ble len 1000 = true)
  (h : ∀ B w', Ext w w' → w.heap.size ≤ B → IsL w' intC 1 (.slice (some ⟨B, 0, none⟩) len len) l → RunL Tryz.prog c n ds ops rest k Q ((d, .slice (some ⟨B, 0, none⟩) len len) :: env) w') :
  RunL Tryz.prog c n ds ops (⟨some d, .buildSlice t len parts, ty, pos, after, guard⟩ :: rest) k Q env w := by
 subst hl
 have hb' := Nat.le_of_ble_eq_true hb
 refine RunL.ex hw hdst rfl (OpE.buildSl Tryz.tOk (l.map (Value.int .i64)) ht (by rfl) rfl (Nat.ble_eq_true_of_le (by omega)) (evInts_ok hp) (by simp) (fun v hv => ?_)) ?_
 ·obtain ⟨x, -, rfl⟩ := List.mem_map.1 hv; rfl
 ·rintro v w' ⟨B, rfl, a⟩
  have e1 : cellsAll (l.map (Value.int .i64)) = flat intC l := by
   clear a hb hb' hp h hw
   induction l with
   | nil => rfl
   | cons x l ih => rw [List.map_cons, flat_cons]; show (Value.int IntKind.i64 x).cells.toList ++ cellsAll _ = _; rw [ih]; rfl
  rw [e1] at a
  exact h B w' a.ext (by rw [a.eq]; exact Nat.le_refl _) (isSl_added (n := l.length) (sz := 1) a (by rw [flat_length encI]))
theorem plN {g : FuncId} {args : Array Operand} {ts : Array TypeId} {vs pre : List Value} {v : Value} {f : List Int → Value} {l : List Int} {env' : Env} {t : Nat} {w0 : World} (hw : wantE ops.toList env ⟨some d, .call ⟨.value (.func g), args, ts⟩, ty, pos, after, guard⟩ = some true) (hdst : Nat.blt d n = true)
  (ha : evL env args.toList = some vs) (hs : lastA vs = some (pre, v)) (htl : lastT args.toList = some t) (hd : delE env t = some env') (hi : PLi g pre f) (hv : IsL w0 intC 1 v l) (e : Ext w0 w) (hl : Nat.ble l.length 100000 = true)
  (h : ∀ w', Ext w w' → RunLN Tryz.prog c n ds ops rest k Q env' w' d (f l)) :
  RunL Tryz.prog c n ds ops (⟨some d, .call ⟨.value (.func g), args, ts⟩, ty, pos, after, guard⟩ :: rest) k Q env w := by
 have hvs := lastA_ok hs
 subst hvs
 refine RunL.call hw hdst ha (hi.ok w v l (hv.up e) (Nat.le_of_ble_eq_true hl)) fun _ w' hh => ?_
 obtain ⟨rfl, e⟩ := hh
 have h3 := h w' e
 intro i hi' a' ha'
 refine h3 i hi' a' ⟨ha'.size, ha'.defers, fun s x hx => ha'.get s x ?_⟩
 by_cases hsd : d = s
 ·subst hsd; rw [Env.get_cons_same] at hx ⊢; exact hx
 ·rw [Env.get_cons_ne hsd] at hx ⊢; exact delE_sub hd s x hx
end
class EqA (t : TypeId) (a b : Value) (p : outParam Bool) : Prop where
 ok : ∀ {w : World} {env : Env} {dst : Option Tmp} {ty : TypeId} {pos : String} {after : Array Edge} {guard : Option (Nat × Bool)} {x y : Operand} {u : TypeId}, evO env x = some a → evO env y = some b → OpV Tryz.prog env w ⟨dst, .binOp .eql t x y u, ty, pos, after, guard⟩ (.bool p)
theorem eqf {w : World} {env : Env} {dst : Option Tmp} {ty : TypeId} {pos : String} {after : Array Edge} {guard : Option (Nat × Bool)} {x y : Operand} {t u : TypeId} {a b : Value} {p : Bool} (hx : evO env x = some a) (hy : evO env y = some b) (h : EqA t a b p) :
  OpV Tryz.prog env w ⟨dst, .binOp .eql t x y u, ty, pos, after, guard⟩ (.bool p) := h.ok hx hy
theorem EqA.of {t : TypeId} {ts : List (TypeId × FK)} {xs ys : List Value} {p : Bool} (h : Flat Tryz.prog t ts) (h1 : fits ts xs) (h2 : fits ts ys) (he : eqAll xs ys = p) : EqA t (.agg xs.toArray) (.agg ys.toArray) p := ⟨fun hx hy => by rw [← he]; exact OpV.eqFlat h hx hy h1 h2⟩
theorem fits_nil : fits [] [] := ⟨rfl, fun _ _ h => by simp at h⟩
theorem fits_cons {t : TypeId} {k : FK} {ts : List (TypeId × FK)} {v : Value} {cs : List Value} (hv : k.ok v) (h : fits ts cs) : fits ((t, k) :: ts) (v :: cs) := ⟨by simp [h.1], fun i x hx => by
 cases i with
 | zero => simp only [List.getElem?_cons_zero, Option.some.injEq] at hx; subst hx; exact ⟨v, rfl, hv⟩
 | succ i => exact h.2 i x (by simpa using hx)⟩
theorem fitsC {ts : List (TypeId × FK)} {cs : List Value} (h : fits ts cs := by repeat (first | exact Go.Sg.fits_nil | refine Go.Sg.fits_cons ⟨_, rfl⟩ ?_)) : fits ts cs := h
theorem rangeL {c : Ctx} {k : List Item} {Q : Out → Act → World → Prop} {w : World} {n : Nat} {ds : List Deferred} {env : Env} {body : Code} {α : Type} {enc : α → List Value} {sz : Nat} {w0 : World} {v : Value} {l : List α} (hv : IsL w0 enc sz v l) (he : EncOk enc sz)
  (tv tn ti : Nat) {σ : Type} (E : σ → Env) (I : Nat → σ → World → Prop) (s0 : σ)
  (hs : Sub ((tv, v) :: (tn, .int .i64 (l.length : Int)) :: (ti, .int .i64 ((0 : Nat) : Int)) :: E s0) env) (h0 : I 0 s0 w)
  (hb : ∀ i s x w1, l[i]? = some x → I i s w1 → ∀ b o cap, v = .slice (some ⟨b, o, none⟩) l.length cap → Row w0 b (o + i * sz) (enc x) → i < l.length →
   (∀ s' w2, I (i + 1) s' w2 → RunE Tryz.prog c n ds (.inLoop body :: k) Q ((tv, v) :: (tn, .int .i64 (l.length : Int)) :: (ti, .int .i64 ((i : Int) + 1)) :: E s') w2) →
   RunE Tryz.prog c n ds (.code body :: .inLoop body :: k) Q ((tv, v) :: (tn, .int .i64 (l.length : Int)) :: (ti, .int .i64 (i : Int)) :: E s) w1)
  (hz : ∀ s w1, I l.length s w1 → RunE Tryz.prog c n ds (.code body :: .inLoop body :: k) Q ((tv, v) :: (tn, .int .i64 (l.length : Int)) :: (ti, .int .i64 (l.length : Int)) :: E s) w1) :
  RunE Tryz.prog c n ds (.code (.loop body) :: k) Q env w := by
 refine RunE.loop (ι := Nat × σ) (fun s => (tv, v) :: (tn, .int .i64 (l.length : Int)) :: (ti, .int .i64 (s.1 : Int)) :: E s.2) (fun s w' => s.1 ≤ l.length ∧ I s.1 s.2 w') (fun s => l.length - s.1) (0, s0) hs ⟨Nat.zero_le _, h0⟩ ?_
 rintro ⟨i, s⟩ w1 ⟨hi, hI⟩ again
 simp only at hi hI again ⊢
 by_cases hlt : i < l.length
 ·obtain ⟨b, o, cap, hve, hr, -⟩ := isL_held hv hlt
  have hx : l[i]? = some l[i] := List.getElem?_eq_getElem hlt
  exact hb i s _ w1 hx hI b o cap hve (flat_row he hr hx) hlt fun s' w2 h2 => by
   have h3 := again (i + 1, s') w2 (by simp only; omega) ⟨hlt, h2⟩
   simpa only [Int.natCast_add, Int.natCast_one] using h3
 ·obtain rfl : i = l.length := by omega
  exact hz s w1 hI
end Go.Sg
end
section
set_option maxRecDepth 4000
namespace Go.Rn
open Go.RowKit
theorem setAt_app : ∀ (vs a b : List Value), b.length = vs.length → setAt (a ++ b) a.length vs = a ++ vs
 | [], a, b, h => by
  have : b = [] := List.length_eq_zero_iff.1 h
  subst this; rfl
 | v :: r, a, [], h => by simp at h
 | v :: r, a, x :: b, h => by
  have e : (a ++ x :: b).set a.length v = (a ++ [v]) ++ b := by
   rw [List.set_append_right _ _ (Nat.le_refl _), Nat.sub_self]; simp
  show setAt ((a ++ x :: b).set a.length v) (a.length + 1) r = _
  have e2 : a.length + 1 = (a ++ [v]).length := by simp
  rw [e, e2, setAt_app r (a ++ [v]) b (by simpa using h)]
  simp
theorem setAt_whole {cs vs : List Value} (h : cs.length = vs.length) : setAt cs 0 vs = vs := setAt_app vs [] cs h
section
variable {P : Program} {c : Ctx} {k : List Item} {Q : Out → Act → World → Prop} {w : World} {n : Nat} {ds : List Deferred} {env : Env}
variable {ops : Array Oper} {d : Tmp} {op : Op} {ty : TypeId} {pos : String} {after : Array Edge} {guard : Option (Nat × Bool)} {rest : List Oper}
theorem RunL.storeW {T : Tab} (hT : T.Ok P) {t bt : TypeId} {i : TI} {x y : Operand} {b : Nat} {cs vs : List Value}
  (hw : wantE ops.toList env ⟨none, .store t x y, ty, pos, after, guard⟩ = some true) (hx : evO env x = some (.pointer (some ⟨b, 0, none⟩))) (hy : evO env y = some (.agg vs.toArray))
  (ht : T.get t = some i) (hsz : vs.length = i.size) (hb : Blk w b cs bt) (hlen : cs.length = vs.length) (hp : vs.all plainV = true)
  (h : ∀ w', Turned w w' b (.cells vs.toArray bt (0, 0)) → RunL P c n ds ops rest k Q env w') :
  RunL P c n ds ops (⟨none, .store t x y, ty, pos, after, guard⟩ :: rest) k Q env w := by
 refine RunL.store hT hw hx hy ht hsz hb ?_ hp fun w' t' => ?_
 ·show Nat.ble (0 + vs.length) cs.length = true
  rw [Nat.zero_add, hlen]; rw [Nat.ble_eq]; exact Nat.le_refl _
 ·have e : setAt cs 0 (Value.agg vs.toArray).cells.toList = vs := setAt_whole hlen
  rw [e] at t'
  exact h w' t'
end
section
variable {P : Program} {c : Ctx} {k : List Item} {Q : Out → Act → World → Prop} {w0 : World} {n : Nat} {ds : List Deferred} {env : Env} {S : Nat → Prop} {sats pres : List (Nat × Pred)} {ph : Option (Option Nat × Pred)} {mu : List Bool}
variable {l : List Oper} {d : Tmp} {op : Op} {ty : TypeId} {pos : String} {after : Array Edge} {guard : Option (Nat × Bool)} {rest : List Oper}
theorem Asy.sat1P {T : Tab} (hT : T.Ok P) (i : Nat) {t : Nat} {U : Pred} (V : Pred) (hi : sats[i]? = some (t, U)) (hl : (Oper.looksAt l.toArray ⟨some d, op, ty, pos, after, guard⟩).contains t = true)
  (hw : wantE l env ⟨some d, op, ty, pos, after, guard⟩ = some true) (hdst : Nat.blt d n = true) (hd : isDefer op = false) (hs : isSel op = false)
  (hV : ∀ v w' w'', ExtB S w0 w' → ExtB S w' w'' → V v w' → V v w'')
  (h : ∀ w' x, ExtB S w0 w' → U x w' → ∃ y, evalOp T ((t, x) :: env) op = some y ∧ V y w')
  (h' : Asy P c n ds S w0 l k Q rest ⟨env.del (some d), (d, V) :: sats, ph, false :: mu, pres⟩) : Asy P c n ds S w0 l k Q (⟨some d, op, ty, pos, after, guard⟩ :: rest) ⟨env, sats, ph, mu, pres⟩ :=
 .sat1 i V hi hl hw hdst hd hs hV (fun w' x s hx => by
  obtain ⟨y, h1, h2⟩ := h w' x s hx
  refine OpE.mono (OpV.e (evalOp_v (o := ⟨some d, op, ty, pos, after, guard⟩) hT h1)) ?_ fun _ _ h => h
  rintro _ _ ⟨rfl, rfl⟩
  exact ⟨ExtB.refl _ _, h2⟩) h'
theorem Asy.val1P {T : Tab} (hT : T.Ok P) (i : Nat) {t : Nat} {U : Pred} {v : Value} (hi : sats[i]? = some (t, U)) (hl : (Oper.looksAt l.toArray ⟨some d, op, ty, pos, after, guard⟩).contains t = true)
  (hw : wantE l env ⟨some d, op, ty, pos, after, guard⟩ = some true) (hdst : Nat.blt d n = true) (hd : isDefer op = false) (hs : isSel op = false)
  (h : ∀ w' x, ExtB S w0 w' → U x w' → evalOp T ((t, x) :: env) op = some v)
  (h' : Asy P c n ds S w0 l k Q rest ⟨(d, v) :: env, sats, ph, false :: mu, pres⟩) : Asy P c n ds S w0 l k Q (⟨some d, op, ty, pos, after, guard⟩ :: rest) ⟨env, sats, ph, mu, pres⟩ :=
 .val1 i hi hl hw hdst hd hs (fun w' x s hx => by
  refine OpE.mono (OpV.e (evalOp_v (o := ⟨some d, op, ty, pos, after, guard⟩) hT (h w' x s hx))) ?_ fun _ _ h => h
  rintro _ _ ⟨rfl, rfl⟩
  exact ⟨rfl, ExtB.refl _ _⟩) h'
end
end Go.Rn
namespace Go
open Go.Rn
end Go
end
