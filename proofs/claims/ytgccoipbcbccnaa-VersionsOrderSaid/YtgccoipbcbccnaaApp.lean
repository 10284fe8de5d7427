/- Appending, making, bytes of a string. -/
import Derived.Test.YtgccoipbcbccnaaMem
set_option linter.unusedSimpArgs false
set_option linter.unusedVariables false
set_option linter.unusedSectionVars false
namespace Go.Rn
open Go.RowKit

variable {P : Program} {w : World} {env : Env} {dst : Option Tmp} {ty : TypeId} {pos : String} {after : Array Edge} {guard : Option (Nat × Bool)}

theorem ExtB.of_grown {w w' : World} {row : Option Nat} (h : w.grownBy w' row) (hd : w.drawn ≤ w'.drawn) : ExtB (fun k => row = some k) w w' :=
  ⟨hd, h.os, h.tape, h.output, h.size, fun k hk hn => h.block k hk fun e => hn e.symm⟩

/-- A slice that can be read: its elements' cells. -/
inductive IsSl (w : World) (sz : Nat) : Value → Nat → List Value → Prop where
  | nil {d : Option Addr} : IsSl w sz (.slice d 0 0) 0 []
  | row {b o n cap : Nat} {cs : List Value} (hr : Row w b o cs) (hl : cs.length = n * sz) (hc : n ≤ cap) : IsSl w sz (.slice (some ⟨b, o, none⟩) n cap) n cs

theorem IsSl.length {w : World} {sz : Nat} {v : Value} {n : Nat} {cs : List Value} (h : IsSl w sz v n cs) : cs.length = n * sz := by
  cases h with
  | nil => simp
  | row _ hl _ => exact hl

theorem one_plain {u : Value} (h : plainV u = true) : u.oneCell' = true := by cases u <;> first | rfl | (simp [plainV] at h)

/-- append(v, x...): v is an own row or nil; what comes back lies where v lay, or in a new block. -/
theorem OpE.append' {T : Tab} (hT : T.Ok P) {t e : TypeId} {sz : Nat} {ag : Bool} {s bb : Nat} {z : List Value} {a u : Bool} {ie : TI} {x y : Operand} {v vx : Value} {n m base : Nat} {xs news : List Value}
    (ht : T.get t = some ⟨.slc sz ag e, s, bb, z, a, u⟩) (he : T.get e = some ie) (hz : ie.zero.length = sz) (hsz : Nat.blt 0 sz = true)
    (hx : evO env x = some v) (hy : evO env y = some vx) (hv : w.ownsRow base e sz v n xs) (hn : IsSl w sz vx m news) (hp : news.all plainV = true)
    (hbytes : (n + m) * ie.bytes ≤ 140737488355328) (h63 : n + m ≤ 9223372036854775807) (hbase : base ≤ w.heap.size) :
    OpE P env w ⟨dst, .call ⟨.builtin .append, #[x, y], #[t, t]⟩, ty, pos, after, guard⟩
      (fun v' w' => w'.ownsRow base e sz v' (n + m) (xs ++ news) ∧ ExtB (fun k => v.ownBlock = some k) w w' ∧ ∀ k, v'.ownBlock = some k → k < w.heap.size → v.ownBlock = some k) fun _ _ => False := by
  obtain ⟨hu, hc⟩ := TD.of_slc (TI.tdof (hT.get _ _ ht)).symm
  obtain ⟨j, dd, zv, hj, hd, hzv, h1, h2, h3, h4, h5, _⟩ := TI.inv (hT.get _ _ he)
  obtain ⟨i, d', hi, hs', _, _⟩ := cellsAgg_inv hc
  rw [hi] at hj; cases hj
  have hsz' : 0 < sz := by simpa [Nat.blt_eq] using hsz
  have hzs : zv.cells.size = sz := by rw [← hz, h3]; simp
  have call : ∀ {v' : Value} {w' : World}, (Builtin.append_ #[t, t] ty #[v, vx]).run P w = .ok v' w' → ∀ ρ : Operand → Value, (∀ x v, evO env x = some v → ρ x = v) →
      ∃ s : Sem Value, execOp ρ ⟨dst, .call ⟨.builtin .append, #[x, y], #[t, t]⟩, ty, pos, after, guard⟩ = (do pure (.value (← s)) : Sem Next) ∧ s.run P w = .ok v' w' := fun hr ρ hρ =>
    ⟨_, by simp only [execOp, resolve, List.map_toArray, List.map_cons, List.map_nil, hρ _ _ hx, hρ _ _ hy]; rfl, hr⟩
  cases hn with
  | @nil d0 =>
    have hr : (Builtin.append_ #[t, t] ty #[v, .slice d0 0 0]).run P w = .ok v w := by
      have hf : ∀ w, (Builtin.firstCells j.size 0 (.slice d0 0 0)).run P w = .ok #[] w := fun w => by cases d0 <;> simp [Builtin.firstCells, loadCells, loadCellsFrom, Pure.pure]
      rcases hv.2 with ⟨rfl, rfl⟩ | ⟨g, cap, cur, rfl, hbg, hg, hnc, hcm, hcs, htake⟩
      · simp [Builtin.append_, run_underlying hu, sizeOf, typeInfo, hi, Builtin.lenOf, hf]
      · simp [Builtin.append_, run_underlying hu, sizeOf, typeInfo, hi, Builtin.lenOf, hf, hnc, storeCells]
    refine .of_run (w' := w) (v := v) ⟨by simpa using hv, ExtB.refl _ _, fun _ h _ => h⟩ (call hr)
  | @row b o _ c _ hr hl hcap =>
    obtain ⟨v', w', hrun, hown, hgr, -⟩ := run_append_own (P := P) (w := w) base t ty e j zv sz j.bytes hu hi hzv hs' rfl hzs hsz' v n xs hv ⟨b, o, none⟩ m c news hl
      (fun j u hj => by rw [add_none]; exact hr j u hj) (fun u hu => one_plain (List.all_eq_true.1 hp u hu)) h63 (by rw [← h2]; exact hbytes) hbase
    refine .of_run (w' := w') (v := v') ⟨hown, .of_grown hgr (run_drawn _ hrun), ?_⟩ (call hrun)
    have hby : (n + m) * j.bytes ≤ 140737488355328 := by rw [← h2]; exact hbytes
    have hnews : ∀ (q : Nat) u, news[q]? = some u → w.cell? ((⟨b, o, none⟩ : Addr).add q) = some u := fun q u hq => by rw [add_none]; exact hr q u hq
    have hone : ∀ u ∈ news, u.oneCell' = true := fun u hu => one_plain (List.all_eq_true.1 hp u hu)
    rcases hv.2 with ⟨rfl, rfl⟩ | ⟨g, vcap, cur, rfl, hbg, hg, hnc, hcm, hcs, htake⟩
    · by_cases hm : m = 0
      · subst hm
        have hrun2 : (Builtin.append_ #[t, t] ty #[.slice none 0 0, .slice (some ⟨b, o, none⟩) 0 c]).run P w = .ok (.slice none 0 0) w := by
          simp [Builtin.append_, run_underlying hu, sizeOf, typeInfo, hi, Builtin.lenOf, Builtin.firstCells, loadCells, loadCellsFrom]
        rw [hrun2] at hrun
        injection hrun with e1 _
        subst e1; intro k hk; simp [Value.ownBlock] at hk
      · have hrun2 := run_append_nil (P := P) w t ty e j zv hu hi hzv ⟨b, o, none⟩ m c news (by rw [hl, hs']) hnews (by omega) (by omega) (by rw [Nat.zero_add] at hby; omega)
        rw [hrun2] at hrun
        injection hrun with e1 _
        subst e1; intro k hk hlt; simp [Value.ownBlock] at hk; omega
    · by_cases hroom : n + m ≤ vcap
      · have hrun2 := run_append_room (P := P) w t ty e j hu hi g n vcap cur hg ⟨b, o, none⟩ m c news (by rw [hl, hs']) hnews hone hroom (by rw [hl, hs', hcs, ← Nat.add_mul]; exact Nat.mul_le_mul_right _ hroom)
        rw [hrun2] at hrun
        injection hrun with e1 _
        subst e1; intro k hk _; exact hk
      · have hrun2 := run_append_grow (P := P) w t ty e j zv hu hi hzv ⟨g, 0, none⟩ n vcap xs (by rw [hv.1, hs']) (hv.cells (g := g) rfl) ⟨b, o, none⟩ m c news (by rw [hl, hs']) hnews (by omega) (by omega) (growslice_fits (by omega) hby)
        rw [hrun2] at hrun
        injection hrun with e1 _
        subst e1; intro k hk hlt; simp [Value.ownBlock] at hk; omega

theorem OpE.append {T : Tab} (hT : T.Ok P) {t e : TypeId} {sz : Nat} {ag : Bool} {s bb : Nat} {z : List Value} {a u : Bool} {ie : TI} {x y : Operand} {v vx : Value} {n m base : Nat} {xs news : List Value}
    (ht : T.get t = some ⟨.slc sz ag e, s, bb, z, a, u⟩) (he : T.get e = some ie) (hz : ie.zero.length = sz) (hsz : Nat.blt 0 sz = true)
    (hx : evO env x = some v) (hy : evO env y = some vx) (hv : w.ownsRow base e sz v n xs) (hn : IsSl w sz vx m news) (hp : news.all plainV = true)
    (hbytes : (n + m) * ie.bytes ≤ 140737488355328) (h63 : n + m ≤ 9223372036854775807) (hbase : base ≤ w.heap.size) :
    OpE P env w ⟨dst, .call ⟨.builtin .append, #[x, y], #[t, t]⟩, ty, pos, after, guard⟩
      (fun v' w' => w'.ownsRow base e sz v' (n + m) (xs ++ news) ∧ ExtB (fun k => v.ownBlock = some k) w w') fun _ _ => False :=
  (OpE.append' hT ht he hz hsz hx hy hv hn hp hbytes h63 hbase).mono (fun _ _ h => ⟨h.1, h.2.1⟩) fun _ _ h => h

theorem bytes_data (s : ByteArray) : (s.data.map fun b => Value.int .u8 (b.toNat : Int)).toList = bytesV s.data.toList := by simp [bytesV]

/-- make([]T, l, c). -/
theorem OpE.make {T : Tab} (hT : T.Ok P) {t e : TypeId} {sz : Nat} {ag : Bool} {s bb : Nat} {z : List Value} {a u : Bool} {ie : TI} {x y : Operand} {kl kc : IntKind} {i j : Int} {l c : Nat}
    (ht : T.get t = some ⟨.slc sz ag e, s, bb, z, a, u⟩) (he : T.get e = some ie) (hz : ie.zero.length = sz)
    (hx : evO env x = some (.int kl i)) (hy : evO env y = some (.int kc j)) (hi : i = (l : Int)) (hj : j = (c : Int)) (hlc : l ≤ c) (hb : ie.bytes * c ≤ 281474976710656) (h63 : c ≤ 9223372036854775807) :
    OpE P env w ⟨dst, .makeSlice t x y, ty, pos, after, guard⟩ (fun v w' => ∃ B, v = .slice (some ⟨B, 0, none⟩) l c ∧ Added w w' B (.cells (zerosL ie.zero c).toArray e (0, 0))) fun _ _ => False := by
  obtain ⟨hu, hc⟩ := TD.of_slc (TI.tdof (hT.get _ _ ht)).symm
  obtain ⟨q, dd, zv, hq, hd, hzv, h1, h2, h3, h4, h5, _⟩ := TI.inv (hT.get _ _ he)
  obtain ⟨i', d', hi', hs', _, _⟩ := cellsAgg_inv hc
  rw [hi'] at hq; cases hq
  subst hi; subst hj
  have hzs : zv.cells.size = sz := by rw [← hz, h3]; simp
  have hr := run_make (P := P) (w := w) t e q zv hu hi' hzv kl kc (l : Int) (c : Int) (by omega) (by omega) (by rw [← h2]; have := Int.ofNat_le.2 hb; simpa using this) (by omega)
  refine .of_run (w' := _) (v := _) ⟨w.heap.size, rfl, ?_⟩ fun ρ hρ => ⟨_, by simp only [execOp, hρ _ _ hx, hρ _ _ hy] <;> rfl, hr⟩
  have : madeCells zv.cells ((c : Int).toNat * q.size) = (zerosL ie.zero c).toArray := by
    apply Array.ext'
    unfold madeCells
    rw [hs', ← hzs, Int.toNat_natCast, range_zeros, h3]
  rw [this]
  exact added_push w _

/-- The bytes of a string, in a new row. -/
theorem OpE.s2b {T : Tab} (hT : T.Ok P) {t t' e : TypeId} {ag : Bool} {s bb s' bb' s2 bb2 : Nat} {z z' z2 : List Value} {a u a' u' a2 u2 : Bool} {x : Operand} {str : ByteArray}
    (ht : T.get t = some ⟨.str, s', bb', z', a', u'⟩) (ht' : T.get t' = some ⟨.slc 1 ag e, s, bb, z, a, u⟩) (he : T.get e = some ⟨.int .u8, s2, bb2, z2, a2, u2⟩) (hx : evO env x = some (.string str)) :
    OpE P env w ⟨dst, .convert t t' x, ty, pos, after, guard⟩ (fun v w' => ∃ B cap, v = .slice (some ⟨B, 0, none⟩) str.size cap ∧ Ext w w' ∧ B = w.heap.size ∧ Row w' B 0 (bytesV str.data.toList) ∧ str.size ≤ cap) fun _ _ => False := by
  obtain ⟨hu', -⟩ := TD.of_slc (TI.tdof (hT.get _ _ ht')).symm
  have hu := TD.of_str (TI.tdof (hT.get _ _ ht)).symm
  have hue := TD.of_int (TI.tdof (hT.get _ _ he)).symm
  have hrun : ∃ cap fz, str.size ≤ cap ∧ (convert t t' (.string str)).run P w = .ok (.slice (some ⟨w.heap.size, 0, none⟩) str.size cap)
      { w with drawn := w.drawn + 1, heap := w.heap.push (.cells (bytesV str.data.toList ++ List.replicate (cap - str.size) (Value.int .u8 0)).toArray e fz) } := by
    let cap := (Question.appendCap str.size 0 e).cut (w.tape w.drawn (.appendCap str.size 0 e))
    have hcap : str.size ≤ cap := Nat.le_add_right _ _
    have hlen : (bytesV str.data.toList ++ List.replicate (cap - str.size) (Value.int .u8 0)).length = cap := by
      rw [List.length_append, List.length_replicate, bytesV_length, Array.length_toList]
      have : str.data.size = str.size := rfl
      omega
    refine ⟨cap, (cap, cap + 1), hcap, ?_⟩
    have hcells : (str.data.map (fun b => Value.int .u8 (b.toNat : Int)) ++ Array.replicate (cap - str.size) (Value.int .u8 0)) = (bytesV str.data.toList ++ List.replicate (cap - str.size) (Value.int .u8 0)).toArray := by
      apply Array.ext'; simp [bytesV]
    unfold convert
    rw [run_bind _ _ (run_underlying hu), run_bind _ _ (run_underlying hu')]
    simp only
    rw [run_bind _ _ (run_underlying hue)]
    simp only
    unfold Conv.stringToBytes
    refine Eq.trans (run_bind (v := cap) (w' := { w with drawn := w.drawn + 1 }) _ _ ?_) ?_
    · simp [choose, Sem.run, Question.forced, cap]
    · simp only
      rw [hcells, run_bind _ _ (run_newRow e _)]
      unfold markStringish
      refine Eq.trans (run_bind (v := ()) (w' := { w with drawn := w.drawn + 1, heap := w.heap.push (.cells (bytesV str.data.toList ++ List.replicate (cap - str.size) (Value.int .u8 0)).toArray e (cap, cap + 1)) }) _ _ ?_) rfl
      refine Eq.trans (run_bind (v := some (e, cap)) (w' := { w with drawn := w.drawn + 1, heap := w.heap.push (.cells (bytesV str.data.toList ++ List.replicate (cap - str.size) (Value.int .u8 0)).toArray e) }) _ _ ?_) ?_
      · simp only [shape, Sem.run, World.shape?, Array.getElem?_push, if_true, List.size_toArray, hlen]
      · simp only [freeze, Sem.run]
        unfold World.freeze
        simp only [Nat.one_ne_zero, if_false]
        congr 2
        apply Array.ext_getElem?
        intro k
        simp only [Array.getElem?_modify, Array.getElem?_push]
        by_cases hk : k = w.heap.size
        · subst hk; simp
        · have hk' : w.heap.size ≠ k := fun e => hk e.symm
          simp [hk, hk']
  obtain ⟨cap, fz, hcap, hrun⟩ := hrun
  refine .of_run (w' := _) (v := _) ⟨w.heap.size, cap, rfl, ?_, rfl, ?_, hcap⟩ fun ρ hρ => ⟨_, by simp only [execOp, hρ _ _ hx] <;> rfl, hrun⟩
  · exact ⟨Nat.le_succ _, rfl, rfl, rfl, by simp, fun k hk _ => by simp [Array.getElem?_push, Nat.ne_of_lt hk]⟩
  · intro i v hv
    unfold World.cell?
    simp only [Array.getElem?_push, if_true, Nat.zero_add, Option.isSome_none, Bool.false_eq_true, if_false, List.getElem?_toArray]
    rw [List.getElem?_append_left (by
      rcases Nat.lt_or_ge i (bytesV str.data.toList).length with h | h
      · exact h
      · rw [List.getElem?_eq_none h] at hv; simp at hv)]
    exact hv
end Go.Rn
