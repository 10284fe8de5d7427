/- []byte("..") of a constant. -/
import Derived.Test.YtbjmdklcbknlpaaDoorSigEq
import Derived.Lib.SlBytesConst
namespace Go.Rn
variable {P : Program} {w : World} {env : Env} {dst : Option Tmp} {ty : TypeId} {pos : String} {after : Array Edge} {guard : Option (Nat × Bool)}
theorem row_cells {b : Nat} {cs : List Value} {t : TypeId} {fz : Nat × Nat} (h : w.heap[b]? = some (.cells cs.toArray t fz)) : Row w b 0 cs := fun i v hv => by
  simp [World.cell?, h, hv]
theorem OpE.bytesC {T : Tab} (hT : T.Ok P) {t e : TypeId} {ag : Bool} {s bb s2 bb2 : Nat} {z z2 : List Value} {a u a2 u2 : Bool} {x : Operand} {B n c : Nat} {cs : List Value} {bt : TypeId}
    (ht : T.get t = some ⟨.slc 1 ag e, s, bb, z, a, u⟩) (he : T.get e = some ⟨.int .u8, s2, bb2, z2, a2, u2⟩) (hx : evO env x = some (.slice (some ⟨B, 0, none⟩) n c)) (hb : Blk w B cs bt) :
    OpE P env w ⟨dst, .convert t t x, ty, pos, after, guard⟩ (fun v w' => v = .slice (some ⟨B, 0, none⟩) n c ∧ Turned w w' B (.cells cs.toArray bt (cs.length, cs.length + 1))) fun _ _ => False := by
  obtain ⟨hu, -⟩ := TD.of_slc (TI.tdof (hT.get _ _ ht)).symm
  have hue := TD.of_int (TI.tdof (hT.get _ _ he)).symm
  refine .of_run (w' := World.setObj w B (.cells cs.toArray bt (cs.length, cs.length + 1))) (v := .slice (some ⟨B, 0, none⟩) n c) ⟨rfl, turned_set w hb.lt _⟩ fun ρ hρ => ⟨_, by simp only [execOp, hρ _ _ hx] <;> rfl, ?_⟩
  have hsh : w.shape? B = some (bt, cs.length) := by
    unfold World.shape?
    rw [show w.heap[B]? = some (.cells cs.toArray bt (0, 0)) from hb]; simp
  have hfr : w.freeze ⟨B, cs.length, none⟩ 1 = World.setObj w B (.cells cs.toArray bt (cs.length, cs.length + 1)) := by
    unfold World.freeze World.setObj
    rw [if_neg (by decide)]
    have hm : ∀ (f : Obj → Obj) (y : Obj), f (.cells cs.toArray bt (0, 0)) = y → w.heap.modify B f = w.heap.setIfInBounds B y := by
      intro f y hy
      have hB := hb.lt
      have hg : w.heap[B] = .cells cs.toArray bt (0, 0) := by
        have : w.heap[B]? = some _ := hb
        rw [Array.getElem?_eq_getElem hB] at this; injection this
      apply Array.ext
      · simp
      · intro i h1 h2
        simp only [Array.getElem_modify, Array.getElem_setIfInBounds]
        by_cases h : B = i
        · subst h; simp [hg, hy]
        · simp only [h, if_false]
          rw [Array.getElem_setIfInBounds_ne _ h]
    rw [hm _ _ (by rfl)]
    rfl
  simp [convert, run_underlying hu, run_underlying hue, markStringish, hsh]
  exact hfr
end Go.Rn
