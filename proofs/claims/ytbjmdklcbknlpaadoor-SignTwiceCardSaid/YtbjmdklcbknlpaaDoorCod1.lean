/- The codec's numbers and values. -/
import Derived.Test.YtbjmdklcbknlpaaDoorSl
import Derived.Lib.AppendStr
import Derived.Test.YtbjmdklcbknlpaaDoorTab
namespace Go.Rn
open Go.RowKit Go.Lib
variable {P : Program} {w : World} {env : Env} {dst : Option Tmp} {ty : TypeId} {pos : String} {after : Array Edge} {guard : Option (Nat × Bool)}
/-- append(v, s...) of a string's bytes. -/
theorem OpE.appendStr {T : Tab} (hT : T.Ok P) {t u e : TypeId} {ag : Bool} {s bb s' bb' s2 : Nat} {z z' : List Value} {a u1 a' u' a2 u2 : Bool} {x y : Operand} {v : Value} {n base : Nat} {xs : List Value} {str : ByteArray} (hz : (P.info? e).bind (·.zero) = some (.int .u8 0))
    (ht : T.get t = some ⟨.slc 1 ag e, s, bb, z, a, u1⟩) (hu : T.get u = some ⟨.str, s', bb', z', a', u'⟩) (he : T.get e = some ⟨.int .u8, s2, 1, [.int .u8 0], a2, u2⟩)
    (hx : evO env x = some v) (hy : evO env y = some (.string str)) (hv : w.ownsRow base e 1 v n xs) (hb : n + str.size ≤ 140737488355328) (hbase : base ≤ w.heap.size) :
    OpE P env w ⟨dst, .call ⟨.builtin .append, #[x, y], #[t, u]⟩, ty, pos, after, guard⟩
      (fun v' w' => w'.ownsRow base e 1 v' (n + str.size) (xs ++ bytesV str.data.toList) ∧ ExtB (fun k => v.ownBlock = some k) w w') fun _ _ => False := by
  obtain ⟨hut, hc⟩ := TD.of_slc (TI.tdof (hT.get _ _ ht)).symm
  have hus := TD.of_str (TI.tdof (hT.get _ _ hu)).symm
  have hue := TD.of_int (TI.tdof (hT.get _ _ he)).symm
  obtain ⟨j, dd, zv, hj, hd, hzv, h1, h2, h3, h4, h5, _⟩ := TI.inv (hT.get _ _ he)
  obtain ⟨ii, d', hii, hs', _, _⟩ := cellsAgg_inv hc
  rw [hii] at hj; cases hj
  have hz : j.zero = some (.int .u8 0) := by rw [hii] at hz; exact hz
  obtain ⟨v', w', hrun, hown, hgr, -⟩ := run_append_own_string (P := P) (w := w) base t u ty e j hut hus hii hz hs' h2.symm v n xs hv str (by simp only [maxLen]; omega) hb hbase
  exact .of_run (w' := w') (v := v') ⟨hown, .of_grown hgr⟩ fun ρ hρ => ⟨_, by simp only [execOp, resolve, List.map_toArray, List.map_cons, List.map_nil, hρ _ _ hx, hρ _ _ hy] <;> rfl, hrun⟩

/-- x.(T), ok: it is one. -/
theorem OpV.assertT {t u : TypeId} {x : Operand} {v : Value} {d : TypeDesc} (hx : evO env x = some (.iface u v)) (hu : P.underlying u = some d) (hd : isIfaceD d = false) :
    OpV P env w ⟨dst, .typeAssert x t u true, ty, pos, after, guard⟩ (.tuple #[v, .bool true]) := .of_run fun ρ hρ => by
  refine ⟨_, by simp only [execOp, hρ _ _ hx]; rfl, ?_⟩
  unfold Instr.typeAssert
  rw [run_bind _ _ (run_underlying hu)]
  cases d <;> first | (simp [isIfaceD] at hd; done) | simp [Pure.pure, Sem.run]
/-- x.(T), ok: it is none. -/
theorem OpV.assertF {t u u' : TypeId} {x : Operand} {v zv : Value} {d : TypeDesc} (hx : evO env x = some (.iface u' v)) (hne : (Nat.beq u' u) = false) (hu : P.underlying u = some d) (hd : isIfaceD d = false)
    (hz : (P.info? u).bind (·.zero) = some zv) :
    OpV P env w ⟨dst, .typeAssert x t u true, ty, pos, after, guard⟩ (.tuple #[zv, .bool false]) := .of_run fun ρ hρ => by
  refine ⟨_, by simp only [execOp, hρ _ _ hx]; rfl, ?_⟩
  obtain ⟨i, hi, hiz⟩ := Option.bind_eq_some_iff.1 hz
  have hne' : ¬ u' = u := fun e => by subst e; simp at hne
  have hzr : (zeroValue u).run P w = .ok zv w := by unfold zeroValue; rw [run_bind _ _ (run_typeInfo hi), hiz]; rfl
  unfold Instr.typeAssert
  rw [run_bind _ _ (run_underlying hu)]
  cases d <;> first | (simp [isIfaceD] at hd; done) | (simp only [hne', if_false, if_true]; rw [run_bind _ _ hzr]; rfl)
end Go.Rn
