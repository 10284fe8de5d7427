/- Nonces: what is done with a book: arguments; what stands in memory. -/
import Derived.Test.YtamcgoplhnbmcaaDoorNonK
import Derived.Test.YtamcgoplhnbmcaaDoorN07
import Derived.Test.YtamcgoplhnbmcaaDoorNonJ
import Derived.Test.YtamcgoplhnbmcaaDoorN03
import Derived.Test.YtamcgoplhnbmcaaDoorDev2
set_option linter.unusedSimpArgs false
set_option linter.unusedVariables false
set_option linter.unusedSectionVars false
namespace Go.Non
open Go.Rn Go.Sg Go.Dev Go.Rec Go.RowKit
structure St where
  kind : Int
  n : Int
deriving DecidableEq, Inhabited
def St.cells (s : St) : List Value := [.int .u8 s.kind, .int .u8 s.n]
theorem encST : EncOk St.cells 2 := ⟨fun _ => rfl, fun _ => rfl, by decide⟩
abbrev LS (w : World) (v : Value) (l : List St) : Prop := IsL w St.cells 2 v l
def okST (x : St) : Prop := (0 ≤ x.kind ∧ x.kind < 256) ∧ 0 ≤ x.n ∧ x.n < 256
end Go.Non
namespace Go.Sg
open Go.Rn Go.Proofs Go.Non Go.Rec Go.RowKit Go.WideShapes Go.ChangeShapes Go.Dev
theorem stFlat : Flat Tryd.prog 44 [(5, .int .u8), (5, .int .u8)] :=
  ⟨by kernel_rfl, by kernel_rfl, by kernel_rfl, by kernel_rfl, by kernel_rfl, fun x hx => by
    simp only [List.mem_cons, List.not_mem_nil, or_false] at hx
    rcases hx with rfl | rfl
    · exact ⟨Tryd.underlying5, by kernel_rfl, by kernel_rfl⟩
    · exact ⟨Tryd.underlying5, by kernel_rfl, by kernel_rfl⟩⟩
section
variable {H : Type} {enc : TypeId × Value → H} {w : World}
set_option maxRecDepth 4000 in
theorem st_row (fuel : Nat) (cs : List Value) (h : Shp Tryd.prog w fuel 44 cs) : ∃ x : St, cs = x.cells ∧ okST x := by
  obtain ⟨hl, hh⟩ := shp_flat stFlat h
  obtain ⟨_, h0, a, rfl, wa⟩ := hh 0 _ rfl
  obtain ⟨_, h1, b, rfl, wb⟩ := hh 1 _ rfl
  refine ⟨⟨a, b⟩, ?_, u8_of_wf wa, u8_of_wf wb⟩
  apply List.ext_getElem?
  intro i
  rcases i with _ | _ | i
  · exact h0
  · exact h1
  · rw [List.getElem?_eq_none (by rw [hl]; simp), List.getElem?_eq_none (by simp [St.cells])]
set_option maxRecDepth 4000 in
theorem steps_open {v : Value} {d : DataW H} {ps : List MemPlace} {held : Bool} {r : Reach} {b0 : Nat} (hval : Value.okWide Tryd.prog w r b0 40 v)
    (h : DataW.Trod enc Tryd.prog w 0 (fun _ => true) held 40 v d ps) : ∃ l : List St, (l.length < 9223372036854775808 ∧ ∀ x ∈ l, okST x) ∧ LS w v l := by
  obtain ⟨l, h1, h2, h3⟩ := open_rows encST Tryd.underlying40 (by kernel_rfl) st_row hval h
  exact ⟨l, ⟨h1, h3⟩, h2⟩
end
/-- A book in use, with what was made and what is over. -/
structure OnceSt (w : World) (k s : Int) (B rM rO N M : Nat) (left : List Int) (u : Value) (ov : List (Int × Value)) : Prop where
  b : Blk w B (bkV (bk k s N left) u) 24
  l : LI' w u left
  own : ∀ j, u.ownBlock = some j → rO < j
  m : MapK (Value.int .i64) (fun _ => True) w rM (madeM k s M)
  o : MapK (Value.int .i64) (fun _ => True) w rO ov
section
variable {w w' : World} {k s : Int} {B rM rO N M : Nat} {left : List Int} {u : Value} {ov : List (Int × Value)}
theorem OnceSt.ext {S : Nat → Prop} (h : OnceSt w k s B rM rO N M left u ov) (e : ExtB S w w') (h1 : ¬ S B) (h2 : ¬ S rM) (h3 : ¬ S rO) (h4 : left ≠ [] → ∀ j, u.ownBlock = some j → ¬ S j) : OnceSt w' k s B rM rO N M left u ov :=
  ⟨h.b.ext e h1, isL_ext h.l e h4, h.own, h.m.ext e h2, h.o.ext e h3⟩
theorem OnceSt.up (h : OnceSt w k s B rM rO N M left u ov) (e : Ext w w') : OnceSt w' k s B rM rO N M left u ov := h.ext e id id id fun _ _ _ => id
theorem OnceSt.ltO (h : OnceSt w k s B rM rO N M left u ov) : rO < w.heap.size := h.o.lt
theorem OnceSt.slice (h : OnceSt w k s B rM rO N M left u ov) : ∃ d c, u = .slice d left.length c := isSl_slice h.l
theorem OnceSt.setO {ov' : List (Int × Value)} (h : OnceSt w k s B rM rO N M left u ov) (e : ExtB (· = rO) w w') (ho : MapK (Value.int .i64) (fun _ => True) w' rO ov') (h1 : B < rM) (h2 : rM < rO) : OnceSt w' k s B rM rO N M left u ov' :=
  ⟨h.b.ext e (by omega), isL_ext h.l e (fun _ j hj => by have := h.own j hj; omega), h.own, h.m.ext e (by omega), ho⟩
theorem OnceSt.setM {M' : Nat} (h : OnceSt w k s B rM rO N M left u ov) (e : ExtB (· = rM) w w') (hm : MapK (Value.int .i64) (fun _ => True) w' rM (madeM k s M')) (h1 : B < rM) (h2 : rM < rO) : OnceSt w' k s B rM rO N M' left u ov :=
  ⟨h.b.ext e (by omega), isL_ext h.l e (fun _ j hj => by have := h.own j hj; omega), h.own, hm, h.o.ext e (by omega)⟩
theorem OnceSt.setB {N' : Nat} {left' : List Int} {u' : Value} (h : OnceSt w k s B rM rO N M left u ov) (t : Turned w w' B (.cells (bkV (bk k s N' left') u').toArray 24 (0, 0))) (hl : LI' w u' left') (ho : ∀ j, u'.ownBlock = some j → rO < j) (h1 : B < rM) (h2 : rM < rO) : OnceSt w' k s B rM rO N' M left' u' ov :=
  ⟨t.at_, isL_ext hl t.ext (fun _ j hj => by have := ho j hj; omega), ho, h.m.ext t.ext (by omega), h.o.ext t.ext (by omega)⟩
end
/-- A list lies in no map. -/
theorem isL_notMap {α β : Type} {w : World} {en : α → List Value} {kk : Nat} {v : Value} {l : List α} {kv : β → Value} {good : β → Prop} {r : Nat} {m : List (β × Value)} (h : IsL w en kk v l) (he : EncOk en kk) (hm : MapK kv good w r m) (hl : l ≠ []) : ∀ j, v.ownBlock = some j → j ≠ r := by
  intro j hj e
  subst e
  obtain ⟨a, l', rfl⟩ := List.exists_cons_of_ne_nil hl
  obtain ⟨b, o, cap, rfl, hr, -⟩ := isL_held h (i := 0) (by simp)
  simp [Value.ownBlock] at hj
  subst hj
  obtain ⟨es, c, h1, -⟩ := hm
  have hx := flat_row he hr (i := 0) (x := a) rfl
  have hp := he.pos
  obtain ⟨x, hx0⟩ : ∃ x, (en a)[0]? = some x := ⟨_, List.getElem?_eq_getElem (by rw [he.len]; exact hp)⟩
  have := hx 0 x hx0
  unfold World.cell? at this
  rw [h1] at this
  simp at this
end Go.Sg
namespace Go.Rn
open Go.RowKit
theorem OpV.lenMap {α : Type} [DecidableEq α] {kv : α → Value} {good : α → Prop} {P : Program} {w : World} {env : Env} {dst : Option Tmp} {ty : TypeId} {pos : String} {after : Array Edge} {guard : Option (Nat × Bool)} {t kt et : TypeId} {x : Operand} {r : Nat} {m : List (α × Value)}
    (ht : P.underlying t = some (.map kt et)) (hx : evO env x = some (.map (some r))) (hm : MapK kv good w r m) :
    OpV P env w ⟨dst, .call ⟨.builtin .len, #[x], #[t]⟩, ty, pos, after, guard⟩ (.int .i64 (m.length : Int)) := .of_run fun ρ hρ => by
  refine ⟨Builtin.len_ #[t] ty #[.map (some r)], by simp only [execOp, resolve, List.map_toArray, List.map_cons, List.map_nil, hρ _ _ hx]; rfl, ?_⟩
  obtain ⟨es, c, h1, h2, -⟩ := hm
  have hl := entsOk_length h2
  unfold Builtin.len_
  simp only [List.getElem?_toArray, List.getElem?_cons_zero]
  rw [run_bind _ _ (run_underlying ht)]
  simp only
  rw [run_bind _ _ (run_getObj h1 (by intros; simp))]
  have : es.size = m.length := by simpa using hl
  rw [← this]; rfl
end Go.Rn
