/- Operations of the library's slice functions. -/
import Derived.Test.YtgccoipbcbccnaaStep
import Derived.Lib.AppendZerosOnto
import Derived.Lib.Overlaps
set_option linter.unusedSimpArgs false
set_option linter.unusedVariables false
set_option linter.unusedSectionVars false
namespace Go.Rn
open Go.RowKit Go.Lib Go.Rec
section
variable {P : Program} {w : World} {env : Env} {dst : Option Tmp} {ty : TypeId} {pos : String} {after : Array Edge} {guard : Option (Nat × Bool)}
/-- s == nil -/
theorem OpV.eqNilSl {t e u : TypeId} {x y : Operand} {d : Option Addr} {n c : Nat} (ht : P.underlying t = some (.slice e)) (hx : evO env x = some (.slice d n c)) (hy : evO env y = some (.slice none 0 0)) :
    OpV P env w ⟨dst, .binOp .eql t x y u, ty, pos, after, guard⟩ (.bool d.isNone) := by
  refine .of_run fun ρ hρ => ⟨_, by simp only [execOp, hρ _ _ hx, hρ _ _ hy]; rfl, ?_⟩
  rw [run_bind _ _ (run_eqGuard_plain .eql t x y (by intro c; simp) (by simp))]
  simp only [binOp]
  have : (Op.equal t (.slice d n c) (.slice none 0 0)).run P w = .ok d.isNone w := by
    unfold Op.equal; rw [show Op.maxDepth = 9999 + 1 from rfl, Op.equalIn, run_bind _ _ (run_underlying ht)]
    cases d <;> rfl
  rw [run_bind _ _ this]; rfl
/-- A call that the model answers itself. -/
theorem OpV.callX {g : FuncId} {args : Array Operand} {ts : Array TypeId} {vs : List Value} {v : Value} (ha : evL env args.toList = some vs) (hc : (callFunc g vs.toArray).run P w = .ok (.value v) w) :
    OpV P env w ⟨dst, .call ⟨.value (.func g), args, ts⟩, ty, pos, after, guard⟩ v := fun ρ hρ => by
  have e : args.map ρ = vs.toArray := evL_mapA hρ ha
  unfold execOp
  simp only
  rw [run_bind (v := { target := .fn (.func g) #[], args := vs.toArray }) (w' := w) _ _ ?_]
  · simp only [invoke]
    simpa using hc
  · simp only [resolve, Act.eval, e] <;> simp [Deferred.ofValue, hρ (.func g) _ rfl, Pure.pure]
theorem OpE.growOnto {T : Tab} (hT : T.Ok P) {t e ti : TypeId} {kt : IntKind} {sz : Nat} {ag : Bool} {s bb s' bb' : Nat} {z z' : List Value} {a u a' u' : Bool} {ie : TI} {x y : Operand} {kd : IntKind} {i : Int} {m g n cap : Nat} {olds : List Value}
    (ht : T.get t = some ⟨.slc sz ag e, s, bb, z, a, u⟩) (hti : T.get ti = some ⟨.int kt, s', bb', z', a', u'⟩) (he : T.get e = some ie) (hz : ie.zero.length = sz) (hsz : Nat.blt 0 sz = true)
    (hx : evO env x = some (.slice (some ⟨g, 0, none⟩) n cap)) (hy : evO env y = some (.int kd i)) (hi : i = (m : Int)) (hm : 0 < m) (hr : Row w g 0 olds) (hol : olds.length = n * sz) (hg : cap < n + m)
    (hb : (n + m) * ie.bytes ≤ 1000000000) (h63 : n + m ≤ 1000000000) :
    OpE P env w ⟨dst, .call ⟨.builtin .append, #[x, y], #[t, ti]⟩, ty, pos, after, guard⟩
      (fun v w' => ∃ B cap' rest, v = .slice (some ⟨B, 0, none⟩) (n + m) cap' ∧ n + m ≤ cap' ∧ B = w.heap.size ∧ Ext w w' ∧ Blk w' B (olds ++ rest) e ∧ rest.length = (cap' - n) * sz) fun _ _ => False := by
  obtain ⟨hu, hc'⟩ := TD.of_slc (TI.tdof (hT.get _ _ ht)).symm
  have hui := TD.of_int (TI.tdof (hT.get _ _ hti)).symm
  obtain ⟨j, dd, zv, hj, hd, hzv, h1, h2, h3, h4, h5, _⟩ := TI.inv (hT.get _ _ he)
  obtain ⟨ii, d', hii, hs', _, _⟩ := cellsAgg_inv hc'
  rw [hii] at hj; cases hj
  have hzs : zv.cells.size = sz := by rw [← hz, h3]; simp
  subst hi
  have hsz' : 0 < sz := by simpa [Nat.blt_eq] using hsz
  have hold : (Builtin.firstCells j.size n (.slice (some ⟨g, 0, none⟩) n cap)).run P w.drew = .ok olds.toArray w.drew := by
    rw [hs']
    exact run_firstCells (P := P) (w := w.drew) (fun i v hv => hr i v hv) hol
  have hfit : Builtin.nextslicecap (n + m) cap * j.bytes ≤ 281474976710656 := by
    rw [← h2]
    have := Nat.mul_le_mul_right ie.bytes (nextslicecap_le (need := n + m) (old := cap) (by omega))
    have e2 : 2 * (n + m) * ie.bytes = 2 * ((n + m) * ie.bytes) := Nat.mul_assoc _ _ _
    omega
  have hmb : m * j.bytes ≤ 281474976710656 := by
    rw [← h2]
    have := Nat.mul_le_mul_right ie.bytes (show m ≤ n + m by omega)
    omega
  have hrun := run_append_grow_zeros (P := P) w t ti ty e j zv kd kt hu hui hii hzv (some ⟨g, 0, none⟩) n cap olds hold m hm (by omega) hg (by omega) hmb hfit
  have hcap := grownCap_ge w (n + m) cap e
  refine .of_run (w' := _) (v := _) ?_ fun ρ hρ => ⟨_, by simp only [execOp, resolve, List.map_toArray, List.map_cons, List.map_nil, hρ _ _ hx, hρ _ _ hy] <;> rfl, hrun⟩
  refine ⟨_, _, (Builtin.zeroCells zv.cells m ++ Builtin.zeroCells zv.cells (grownCap w (n + m) cap e - (n + m))).toList, rfl, hcap, rfl, ⟨Nat.le_succ _, rfl, rfl, rfl, by simp, fun k hk _ => heap_alloc_old w.drew _ k hk⟩, ?_, ?_⟩
  · unfold Blk
    refine (heap_alloc_new w.drew _).trans ?_
    congr 2
    apply Array.ext'
    simp
  · simp only [Array.length_toList, Array.size_append, size_zeroCells, hzs, ← Nat.add_mul]
    congr 1
    omega
/-- append to an empty slice without room: nothing that was there is written. -/
theorem OpE.append0 {T : Tab} (hT : T.Ok P) {t e : TypeId} {sz : Nat} {ag : Bool} {s bb : Nat} {z : List Value} {a u : Bool} {ie : TI} {x y : Operand} {vx : Value} {g m : Nat} {news : List Value}
    (ht : T.get t = some ⟨.slc sz ag e, s, bb, z, a, u⟩) (he : T.get e = some ie) (hz : ie.zero.length = sz)
    (hx : evO env x = some (.slice (some ⟨g, 0, none⟩) 0 0)) (hy : evO env y = some vx) (hn : IsSl w sz vx m news) (hbytes : m * ie.bytes ≤ 140737488355328) (h63 : m ≤ 9223372036854775807) :
    OpE P env w ⟨dst, .call ⟨.builtin .append, #[x, y], #[t, t]⟩, ty, pos, after, guard⟩
      (fun v' w' => ((m = 0 ∧ v' = .slice (some ⟨g, 0, none⟩) 0 0) ∨ w'.ownsRow w.heap.size e sz v' m news) ∧ Ext w w') fun _ _ => False := by
  obtain ⟨hu, hc⟩ := TD.of_slc (TI.tdof (hT.get _ _ ht)).symm
  obtain ⟨j, dd, zv, hj, hd, hzv, h1, h2, h3, h4, h5, _⟩ := TI.inv (hT.get _ _ he)
  obtain ⟨i, d', hi, hs', _, _⟩ := cellsAgg_inv hc
  rw [hi] at hj; cases hj
  have hzs : zv.cells.size = sz := by rw [← hz, h3]; simp
  have call : ∀ {v' : Value} {w' : World}, (Builtin.append_ #[t, t] ty #[.slice (some ⟨g, 0, none⟩) 0 0, vx]).run P w = .ok v' w' → ∀ ρ : Operand → Value, (∀ x v, evO env x = some v → ρ x = v) →
      ∃ s : Sem Value, execOp ρ ⟨dst, .call ⟨.builtin .append, #[x, y], #[t, t]⟩, ty, pos, after, guard⟩ = (do pure (.value (← s)) : Sem Next) ∧ s.run P w = .ok v' w' := fun hr ρ hρ =>
    ⟨_, by simp only [execOp, resolve, List.map_toArray, List.map_cons, List.map_nil, hρ _ _ hx, hρ _ _ hy]; rfl, hr⟩
  rcases hn.inv with ⟨d0, rfl, rfl, rfl⟩ | ⟨b, o, c, rfl, hr, hl, hcap⟩
  · have hf : ∀ w, (Builtin.firstCells j.size 0 (.slice d0 0 0)).run P w = .ok #[] w := fun w => by cases d0 <;> simp [Builtin.firstCells, loadCells, loadCellsFrom, Pure.pure]
    have hr : (Builtin.append_ #[t, t] ty #[.slice (some ⟨g, 0, none⟩) 0 0, .slice d0 0 0]).run P w = .ok (.slice (some ⟨g, 0, none⟩) 0 0) w := by
      simp [Builtin.append_, run_underlying hu, sizeOf, typeInfo, hi, Builtin.lenOf, hf, storeCells]
    exact .of_run ⟨.inl ⟨rfl, rfl⟩, ExtB.refl _ _⟩ (call hr)
  · by_cases hm : m = 0
    · subst hm
      have hrun2 : (Builtin.append_ #[t, t] ty #[.slice (some ⟨g, 0, none⟩) 0 0, .slice (some ⟨b, o, none⟩) 0 c]).run P w = .ok (.slice (some ⟨g, 0, none⟩) 0 0) w := by
        simp [Builtin.append_, run_underlying hu, sizeOf, typeInfo, hi, Builtin.lenOf, Builtin.firstCells, loadCells, loadCellsFrom, storeCells]
      exact .of_run ⟨.inl ⟨rfl, rfl⟩, ExtB.refl _ _⟩ (call hrun2)
    · have hrun := run_append_grow (P := P) (w := w) t ty e j zv hu hi hzv ⟨g, 0, none⟩ 0 0 [] (by simp) (fun j v h => by simp at h) ⟨b, o, none⟩ m c news (by rw [hl, hs']) (fun q v hv => by rw [add_none]; exact hr q v hv) (by omega) (by omega)
        (growslice_fits (by omega) (by rw [Nat.zero_add, ← h2]; exact hbytes))
      rw [Nat.zero_add] at hrun
      have hcap2 := grownCap_ge w m 0 e
      have hcm : grownCap w m 0 e ≤ maxLen := grownCap_le_maxLen w m 0 e (by simp only [maxLen]; omega)
      refine .of_run ⟨.inr ⟨hl, .inr ⟨w.heap.size, grownCap w m 0 e, _, rfl, Nat.le_refl _, heap_alloc_new w.drew _, hcap2, hcm, ?_, ?_⟩⟩, ⟨Nat.le_succ _, rfl, rfl, rfl, by simp, fun k hk _ => heap_alloc_old w.drew _ k hk⟩⟩ (call hrun)
      · simp only [Array.size_append, List.size_toArray, List.length_nil, size_zeroCells, hzs, hl, Nat.zero_add, ← Nat.add_mul]
        congr 1; omega
      · simp only [Array.toList_append, List.append_assoc, List.nil_append]
        rw [List.take_append_of_le_length (by rw [hl]; exact Nat.le_refl _), ← hl, List.take_length]
theorem OpV.slice1' {T : Tab} (hT : T.Ok P) {t e : TypeId} {sz : Nat} {ag : Bool} {s bb : Nat} {z : List Value} {a u : Bool} {x : Operand} {low : Option Operand} {b o len cap : Nat} (lo : Nat)
    (ht : T.get t = some ⟨.slc sz ag e, s, bb, z, a, u⟩) (hx : evO env x = some (.slice (some ⟨b, o, none⟩) len cap)) (hl : Bnd env low 0 lo) (h1 : lo ≤ len) (h2 : len ≤ cap) (h3 : lo < cap) :
    OpV P env w ⟨dst, .slice t x low none none, ty, pos, after, guard⟩ (.slice (some ⟨b, o + lo * sz, none⟩) (len - lo) (cap - lo)) :=
  OpV.sliceSq hT ht hx hl .none h1 h2 (offOf_lt h3) rfl rfl
theorem OpE.build0 {T : Tab} (hT : T.Ok P) (t e : TypeId) {sz : Nat} {ag : Bool} {s b : Nat} {z : List Value} {a u : Bool} {ie : TI} (ht : T.get t = some ⟨.slc sz ag e, s, b, z, a, u⟩) (he : T.get e = some ie) (hz : ie.zero.length = sz) :
    OpE P env w ⟨dst, .buildSlice t 0 #[], ty, pos, after, guard⟩ (fun v w' => (∃ B, v = .slice (some ⟨B, 0, none⟩) 0 0) ∧ Ext w w') fun _ _ => False := by
  refine OpE.mono (OpE.buildSl (w := w) (env := env) hT [] ht he hz (by simp [Nat.ble]) rfl rfl (by simp)) ?_ fun _ _ h => h
  rintro v w' ⟨B, h, a⟩; exact ⟨⟨B, h⟩, a.ext⟩
end
end Go.Rn
