/- Parts of this project that the claims share: MerG, DeeT, Close, OpenL, CloseT, Laid, OpenS, DeeO, Wri, AsyW, MerB, Mer3, Mer4, BestS, Cmp, CmpO, SortB, SortD, Mer5, MerR, MerL, MerP, Mer6. -/
import Derived.Test.YtpmpefkcmokoiaaGreatDoorMs06
import Derived.Test.YtpmpefkcmokoiaaGreatDoorMs07
import Derived.Test.YtpmpefkcmokoiaaGreatDoorMs02
import Derived.Test.YtpmpefkcmokoiaaGreatDoorRows
import Derived.WalkKit
import Derived.ProofKit
import Derived.OpenShut
import Derived.Carry
import Derived.ChangeSame
import Derived.Test.YtpmpefkcmokoiaaGreatDoorMs05
import Derived.Test.YtpmpefkcmokoiaaGreatDoorMs03
import Derived.Test.YtpmpefkcmokoiaaGreatDoorTie
import Derived.Test.YtpmpefkcmokoiaaGreatDoorCards
import Derived.LaidMore
import Derived.Stop.Joined
import Derived.MakeChecks
import Derived.ChangeMaps5
import Derived.Test.YtpmpefkcmokoiaaGreatDoorMs04
import Derived.Shelf.SlSortCmp.NoneTotal
set_option linter.unusedSimpArgs false
set_option linter.unusedVariables false
set_option linter.unusedSectionVars false
section
/- Maps whose values are lists of their own; a list, by its keys. -/
set_option maxRecDepth 4000
namespace Go.Rn
open Go.RowKit Go.Rec Go.Sg
/-- Each key has a list of its own. -/
structure GrpOk {κ α : Type} [DecidableEq κ] (enc : α → List Value) (sz : Nat) (ty : TypeId) (w : World) (base : Nat) (m : List (κ × Value)) (g : κ → List α) : Prop where
 get : ∀ x, match getM x m with
  | none => g x = []
  | some v => w.ownsRow base ty sz v (g x).length (flat enc (g x))
 ap : ∀ (x y : κ) (v v' : Value) (k : Nat), x ≠ y → getM x m = some v → getM y m = some v' → v.ownBlock = some k → v'.ownBlock = some k → False
section
variable {κ α : Type} [DecidableEq κ] {enc : α → List Value} {sz : Nat} {ty : TypeId}
theorem GrpOk.nil (w : World) (base : Nat) {g : κ → List α} (hg : ∀ x, g x = []) : GrpOk enc sz ty w base [] g := ⟨fun x => hg x, fun x y v v' k _ h => by simp [getM] at h⟩
theorem GrpOk.ext {S : Nat → Prop} {w w' : World} {base : Nat} {m : List (κ × Value)} {g : κ → List α} (h : GrpOk enc sz ty w base m g) (e : ExtB S w w') (hS : ∀ k cs, base ≤ k → w.heap[k]? = some (.cells cs ty (0, 0)) → ¬ S k) : GrpOk enc sz ty w' base m g := by
 refine ⟨fun x => ?_, h.ap⟩
 have := h.get x
 cases hx : getM x m with
 | none => rw [hx] at this; exact this
 | some v =>
  rw [hx] at this
  refine ownsRow_ext this e fun k hk => ?_
  rcases this.2 with ⟨rfl, -⟩ | ⟨g, c, cur, rfl, hb, hg, -⟩
  ·simp [Value.ownBlock] at hk
  ·have : k = g := by simpa [Value.ownBlock] using hk.symm
   subst this
   exact hS k cur hb hg
theorem GrpOk.up {w w' : World} {base : Nat} {m : List (κ × Value)} {g : κ → List α} (h : GrpOk enc sz ty w base m g) (e : Ext w w') : GrpOk enc sz ty w' base m g := h.ext e fun _ _ _ _ h => h
theorem GrpOk.own {w : World} {base : Nat} {m : List (κ × Value)} {g : κ → List α} (h : GrpOk enc sz ty w base m g) (x : κ) : w.ownsRow base ty sz ((getM x m).getD nilV) (g x).length (flat enc (g x)) := by
 have := h.get x
 cases hx : getM x m with
 | none =>
  rw [hx] at this
  rw [this]; exact World.ownsRow_nil _ _ _ _
 | some v => rw [hx] at this; exact this
/-- Which block it is. -/
theorem GrpOk.blk {w : World} {base : Nat} {m : List (κ × Value)} {g : κ → List α} (h : GrpOk enc sz ty w base m g) (x : κ) {k : Nat} (hk : ((getM x m).getD nilV).ownBlock = some k) : base ≤ k ∧ k < w.heap.size ∧ ∃ cs, w.heap[k]? = some (.cells cs ty (0, 0)) := by
 have hO := h.own x
 refine ⟨ownsRow_ge hO hk, ?_⟩
 rcases hO.2 with ⟨h0, -⟩ | ⟨g, c, cur, h0, hb, hg, -⟩
 ·rw [h0] at hk; simp [Value.ownBlock] at hk
 ·rw [h0] at hk
  have : k = g := by simpa [Value.ownBlock] using hk.symm
  subst this
  exact ⟨lt_of_get hg, cur, hg⟩
/-- One more. -/
theorem GrpOk.snoc {w w' : World} {base : Nat} {m : List (κ × Value)} {g g' : κ → List α} {x0 : κ} {a : α} {u : Value} (h : GrpOk enc sz ty w base m g) (e : ExtB (fun k => ((getM x0 m).getD nilV).ownBlock = some k) w w')
  (hu : w'.ownsRow base ty sz u ((g x0).length + 1) (flat enc (g x0) ++ enc a)) (ho : ∀ k, u.ownBlock = some k → k < w.heap.size → ((getM x0 m).getD nilV).ownBlock = some k)
  (h0 : g' x0 = g x0 ++ [a]) (h1 : ∀ x, x ≠ x0 → g' x = g x) : GrpOk enc sz ty w' base (setM x0 u m) g' := by
 have hlt : ∀ (x : κ) (v : Value) (k : Nat), getM x m = some v → v.ownBlock = some k → k < w.heap.size := fun x v k hx hk => (h.blk x (by rw [hx]; exact hk)).2.1
 have hno : ∀ (x : κ) (v : Value) (k : Nat), x ≠ x0 → getM x m = some v → v.ownBlock = some k → ¬ ((getM x0 m).getD nilV).ownBlock = some k := fun x v k hx hv hk hk' => by
  cases hd : getM x0 m with
  | none => rw [hd] at hk'; simp [Value.ownBlock] at hk'
  | some v' =>
   rw [hd] at hk'
   exact h.ap x0 x v' v k (Ne.symm hx) hd hv hk' hk
 refine ⟨fun x => ?_, fun x y v v' k hxy hx hy hk hk' => ?_⟩
 ·rw [getM_set]
  by_cases hx : x = x0
  ·subst hx
   rw [if_pos rfl]
   simp only
   rw [h0, List.length_append, flat_append, flat_one]
   exact hu
  ·rw [if_neg hx, h1 x hx]
   have := h.get x
   cases hxm : getM x m with
   | none => rw [hxm] at this; exact this
   | some v =>
    rw [hxm] at this
    exact ownsRow_ext this e fun k hk => hno x v k hx hxm hk
 ·rw [getM_set] at hx hy
  by_cases h2 : x = x0
  ·have h3 : ¬ y = x0 := fun e => hxy (h2.trans e.symm)
   rw [if_pos h2] at hx
   rw [if_neg h3] at hy
   cases hx
   exact hno y v' k h3 hy hk' (ho k hk (hlt y v' k hy hk'))
  ·rw [if_neg h2] at hx
   by_cases h3 : y = x0
   ·rw [if_pos h3] at hy
    cases hy
    exact hno x v k h2 hx hk (ho k hk' (hlt x v k hx hk))
   ·rw [if_neg h3] at hy
    exact h.ap x y v v' k hxy hx hy hk hk'
end
theorem filter_or_perm {α : Type} (p q : α → Bool) (hpq : ∀ x, p x = true → q x = false) : ∀ l : List α, (l.filter p ++ l.filter q).Perm (l.filter fun x => p x || q x)
 | [] => .nil
 | x :: l => by
  have ih := filter_or_perm p q hpq l
  simp only [List.filter_cons]
  cases hp : p x with
  | true =>
   rw [hpq x hp]
   exact ih.cons x
  | false =>
   cases hq : q x with
   | true => exact List.perm_middle.trans (ih.cons x)
   | false => exact ih
/-- By keys: every element once. -/
theorem keys_perm {α κ : Type} [DecidableEq κ] (key : α → κ) (l : List α) : ∀ ks : List κ, ks.Nodup → (ks.flatMap fun k => l.filter fun x => decide (key x = k)).Perm (l.filter fun x => ks.any fun k => decide (key x = k))
 | [], _ => by simp
 | k :: ks, hn => by
  obtain ⟨h1, h2⟩ := List.nodup_cons.1 hn
  rw [List.flatMap_cons]
  refine ((keys_perm key l ks h2).append_left _).trans ((filter_or_perm _ _ (fun x hx => ?_) l).trans ?_)
  ·rw [decide_eq_true_eq] at hx
   subst hx
   rw [List.any_eq_false]
   intro k' hk'
   rw [decide_eq_true_eq]
   intro e
   exact h1 (e ▸ hk')
  ·exact .of_eq rfl
end Go.Rn
end
section
/- Deeds: the examples of the chapter; made lists; calls in the form of the laws. -/
set_option maxRecDepth 4000
namespace Go.Rec
open Go.Rn
theorem cellsAll_flat {α : Type} {enc : α → List Value} : ∀ l : List α, cellsAll (l.map fun x => Value.agg (enc x).toArray) = flat enc l
 | [] => rfl
 | x :: l => by
  rw [List.map_cons, flat_cons, ← cellsAll_flat l]; rfl
section
variable {P : Program} {w : World} {env : Env} {dst : Option Tmp} {ty : TypeId} {pos : String} {after : Array Edge} {guard : Option (Nat × Bool)}
theorem OpE.buildL {α : Type} {enc : α → List Value} {k : Nat} (h : EncOk enc k) {T : Tab} (hT : T.Ok P) {t e : TypeId} {ag : Bool} {s b len : Nat} {z : List Value} {a u : Bool} {ie : TI} {parts : Array (Nat × Operand)} (l : List α)
  (ht : T.get t = some ⟨.slc k ag e, s, b, z, a, u⟩) (he : T.get e = some ie) (hz : ie.zero.length = k) (hlen : Nat.ble (len * k) 16777216 = true) (hp : evParts env parts.toList = some (enumV 0 (l.map fun x => Value.agg (enc x).toArray)))
  (hl : l.length = len) :
  OpE P env w ⟨dst, .buildSlice t len parts, ty, pos, after, guard⟩ (fun v w' => (∃ B, v = .slice (some ⟨B, 0, none⟩) l.length l.length) ∧ IsL w' enc k v l ∧ Ext w w') fun _ _ => False := by
 refine OpE.mono (OpE.buildSl hT _ ht he hz hlen hp (by rw [List.length_map]; exact hl) fun v hv => ?_) ?_ fun _ _ h => h
 ·obtain ⟨x, -, rfl⟩ := List.mem_map.1 hv
  exact h.len x
 ·rintro _ w' ⟨B, rfl, a⟩
  rw [cellsAll_flat] at a
  subst hl
  exact ⟨⟨B, rfl⟩, isSl_added a (flat_length h l), a.ext⟩
end
end Go.Rec
namespace Go.Dee
open Go.Rn Go.RowKit Go.Rec Go.Sha Go.Sg Go.NT
theorem v2n : validS 2 = false := by
 have h := validS_iff (x := 2) (by decide) (by decide)
 have g := G_two (n := 2147483579) (by decide)
 rw [if_pos (.inl (by decide))] at g
 have e : ((2 : Nat) : Int) = 2 := rfl
 rw [e] at h
 rw [h]
 exact decide_eq_false (by omega)
def cD (g : Dg) : Deed := askD 0 1 12 g [] []
theorem wf_make {x : Int} {d : Deed} (h : WfD d) : WfD (makeD x d) := by
 have hE := sigE_bd x (textD d)
 have hS := sigS_bd x (textD d)
 unfold makeD
 split
 ·exact ⟨h.person, h.no, h.at_, ⟨by simp only; omega, by simp only; omega⟩, ⟨by simp only; omega, by simp only; omega⟩⟩
 ·exact ⟨⟨by decide, by decide⟩, ⟨by decide, by decide⟩, ⟨by decide, by decide⟩, ⟨by decide, by decide⟩, ⟨by decide, by decide⟩⟩
theorem makeE_ok {x : Int} {d : Deed} (hx : inQ x = true) (hf : formedD d = true) : makeE x d = 0 := by unfold makeE; rw [hx, hf]; rfl
theorem log_cons3 {ks : List Int} {a b c : Deed} (h1 : stepD ks [] a = true) (h2 : stepD ks [a] b = true) (h3 : stepD ks [a, b] c = true) : logD ks [a, b, c] = true := by
 refine logD_iff.2 fun i d hd => ?_
 rcases i with _ | _ | _ | i
 ·cases hd; exact h1
 ·cases hd; exact h2
 ·cases hd; exact h3
 ·simp at hd
end Go.Dee
end
section
/- A law's last step, whatever the law: it has returned true, and of what lay in memory nothing has turned. -/
set_option maxRecDepth 4000
namespace Go.Sg
open Go.Rn Go.RowKit Go.WideShapes Go.ChangeShapes

section
variable {H : Type} {enc : TypeId × Value → H} {P : Program}

theorem trodAll_stays (hl : laidOutB P = true) {W W' : World} (hb : Below W.heap.size W W') : ∀ (ts : List TypeId) (vs : List Value) (ds : List (DataW H)) (ps : List MemPlace),
  (∀ t ∈ ts, P.readableRec t = true ∧ t < P.types.size) → (∀ x ∈ ps, x.block < W.heap.size) → DataW.TrodAll enc P W 0 (fun _ => true) true ts vs ds ps →
  DataW.TrodAll enc P W' 0 (fun b => decide (b < W.heap.size)) true ts vs ds ps
 | [], vs, ds, ps, _, _, h => by
  obtain ⟨rfl, rfl, rfl⟩ := trodAll_nil h
  exact trodAll_mk0
 | t :: ts, vs, ds, ps, ht, hp, h => by
  obtain ⟨v, vs', d, ds', p, q, rfl, rfl, rfl, hd, hr⟩ := trodAll_cons h
  have h1 := ht t (by simp)
  exact trodAll_cons_mk (Below.trod hl h1.1 h1.2 hd hb (fun x hx => hp x (by simp [hx])))
   (trodAll_stays hl hb ts vs' ds' q (fun u hu => ht u (by simp [hu])) (fun x hx => hp x (by simp [hx])) hr)

theorem law_post {f : Func} {s : ChangeSpec} {apart fresh : Bool} {W W' : World} {args : Array Value} {ds gs : List (DataW H)} {before : List MemPlace} {t : TypeId}
  (hl : laidOutB P = true) (hpar : f.params.toList.all (fun t => P.readableRec t && decide (t < P.types.size)) = true) (hrt : f.resultTypes = #[t]) (hbool : P.underlying t = some .bool) (hvars : s.vars = [])
  (hfn : ∀ ds : List (DataW H), ds.length = f.params.size → s.fn H ds = { results := [.lit (.bool true)], args := ds })
  (hW : DataW.Whole enc P f.params.toList s.vars apart W args.toList ds gs before) (hb : Ext W W') :
  s.post enc P f apart fresh false false W args (.bool true) W' := by
 have hW' := hW
 obtain ⟨p, q, hA, hV, rfl, hfz, hnd⟩ := hW
 rw [hvars] at hV
 obtain ⟨rfl, rfl⟩ := trodVars_none hV
 have hlen : ds.length = f.params.size := by
  have : ∀ (ts : List TypeId) (vs : List Value) (ds : List (DataW H)) (ps : List MemPlace), DataW.TrodAll enc P W 0 (fun _ => true) true ts vs ds ps → ds.length = ts.length := by
   intro ts
   induction ts with
   | nil => intro vs ds ps h; obtain ⟨rfl, rfl, rfl⟩ := trodAll_nil h; rfl
   | cons t ts ih =>
    intro vs ds ps h
    obtain ⟨v, vs', d, ds', p, q, rfl, rfl, rfl, hd, hr⟩ := trodAll_cons h
    simp [ih _ _ _ hr]
  simpa using this _ _ _ _ hA
 have hfn' := hfn ds hlen
 have hlt : ∀ x ∈ p, x.block < W.heap.size := fun x hx => by simpa using hW'.lt x (by simpa using hx)
 have hpar' : ∀ t ∈ f.params.toList, P.readableRec t = true ∧ t < P.types.size := fun t ht => by
  have := List.all_eq_true.1 hpar t ht
  simpa using this
 have hA' := trodAll_stays hl hb.below _ _ _ _ hpar' hlt hA
 refine ⟨ds, [], p ++ [], [], p, [], hW', ?_, ?_, ?_, World.keptBut_mono (fun x hx => ⟨hx, .inr (.inl (by simpa using hx))⟩) (hb.below.frame (· ∈ p ++ [])), fun h => by simp at h⟩
 ·rw [List.append_nil, hfn', hrt]
  exact trodAll_mk1 (shut_bool hbool _)
 ·rw [List.append_nil, hfn']; exact hA'
 ·rw [List.append_nil, hfn', hvars]; exact hV
end

theorem i64_of_wf {n : Int} (h : (Lit.int .i64 n).wf = true) : -9223372036854775808 ≤ n ∧ n < 9223372036854775808 := by
 have e1 : IntKind.i64.min = -9223372036854775808 := rfl
 have e2 : IntKind.i64.max = 9223372036854775807 := rfl
 simp only [Lit.wf, decide_eq_true_eq, Bool.and_eq_true, e1, e2] at h
 omega

theorem u8_of_wf {n : Int} (h : (Lit.int .u8 n).wf = true) : 0 ≤ n ∧ n < 256 := by
 have e1 : IntKind.u8.min = 0 := rfl
 have e2 : IntKind.u8.max = 255 := rfl
 simp only [Lit.wf, decide_eq_true_eq, Bool.and_eq_true, e1, e2] at h
 omega

/-- What a law's walk owes. -/
theorem Rets.calls {P : Program} {g : FuncId} {args : List Value} {w : World} {R : Value → World → Prop} (h : Rets P g args w R) : Calls P g args.toArray w (fun e w' => ∃ v, e = .returned v ∧ R v w') :=
 h.2.mono fun e w' he => by
  cases e with
  | returned v => exact ⟨v, rfl, he⟩
  | panicked ch => exact he.elim
  | outgrown => exact he.elim
end Go.Sg
end
section
/- Arguments that are structs, lists of structs. -/
set_option maxRecDepth 4000
namespace Go.Sg
open Go.Rn Go.RowKit Go.WideShapes Go.ChangeShapes Go.Rec
section
variable {H : Type} {enc : TypeId × Value → H} {P : Program} {w : World}
theorem okWide_sl {t e : TypeId} {r : Reach} {b0 : Nat} {v : Value} (ht : P.underlying t = some (.slice e)) (h : Value.okWide P w r b0 t v) : ∃ d n c, v = .slice d n c := by
 unfold Value.okWide at h
 rw [ht] at h
 simp only [Cell.okWide, ht, Cell.ok] at h
 cases v <;> simp_all

theorem open_rows {α : Type} {en : α → List Value} {k : Nat} (hk : EncOk en k) {wfx : α → Prop} {t e : TypeId} {v : Value} {d : DataW H} {ps : List MemPlace} {held : Bool} {r : Reach} {b0 : Nat} (ht : P.underlying t = some (.slice e)) (hs : P.cellsOf e = k)
  (hrow : ∀ fuel cs, Shp P w fuel e cs → ∃ x, cs = en x ∧ wfx x) (hval : Value.okWide P w r b0 t v)
  (h : DataW.Trod enc P w 0 (fun _ => true) held t v d ps) : ∃ l : List α, l.length < 9223372036854775808 ∧ IsL w en k v l ∧ ∀ x ∈ l, wfx x := by
 obtain ⟨a, n, c, rfl⟩ := okWide_sl ht hval
 obtain ⟨fuel, hf⟩ := shp_of_Trod h
 obtain ⟨f, u, m, rows, hv, hm, hr, hrs, hsl⟩ := hf.slice ht hs hk.pos
 have hu : u = .slice a n c := by simpa [Value.cells] using hv.symm
 subst hu
 obtain ⟨l, hl, hw⟩ : ∃ l : List α, rows = l.map en ∧ ∀ x ∈ l, wfx x := by
  clear hr hsl
  induction rows with
  | nil => exact ⟨[], rfl, by simp⟩
  | cons r rs ih =>
   obtain ⟨l, rfl, h2⟩ := ih fun r hr => hrs r (List.mem_cons_of_mem _ hr)
   obtain ⟨x, rfl, hx⟩ := hrow f r (hrs r List.mem_cons_self).2
   exact ⟨x :: l, rfl, fun y hy => by
    rcases List.mem_cons.1 hy with rfl | hy
    ·exact hx
    ·exact h2 y hy⟩
 subst hl
 have hlm : l.length = m := by simpa using hr
 refine ⟨l, by simp only [maxLen] at hm; omega, ?_, hw⟩
 rw [← hlm] at hsl
 exact hsl
end
end Go.Sg
end
section
/- A tied law's last step: what the listed variables hold; arguments that are texts and bytes. -/
set_option maxRecDepth 4000
namespace Go.Sg
open Go.Rn Go.RowKit Go.WideShapes Go.ChangeShapes

section
variable {H : Type} {enc : TypeId × Value → H} {P : Program} {w : World}

theorem trod_array {t e : TypeId} {n fuel : Nat} {cs : List Value} {x : DataW H × List MemPlace} {base : Nat} {sp : Nat → Bool} {held : Bool} (ht : P.underlying t = some (.array n e)) (h : DataW.trod enc P w base sp held fuel t cs = some x) :
  ∃ xs f, fuel = f + 1 ∧ x = (.agg (xs.map (·.1)), xs.flatMap (·.2)) ∧ cs.length = P.cellsOf t ∧
   (List.range n).mapM (fun i => DataW.trod enc P w base sp held f e ((cs.drop (i * P.cellsOf e)).take (P.cellsOf e))) = some xs := by
 cases fuel with
 | zero => simp [DataW.trod] at h
 | succ f =>
  unfold DataW.trod at h
  rw [ht] at h
  split at h <;> simp_all
  obtain ⟨hl, xs, hxs, hd⟩ := h
  exact ⟨xs, hd.symm, hxs⟩

theorem ints_of_trod {k : IntKind} {t e : TypeId} {n : Nat} {fuel : Nat} {cs : List Value} {zs : List Int} {p : List MemPlace} {held : Bool} (ht : P.underlying t = some (.array n e)) (he : P.underlying e = some (.int k)) (hc : P.cellsOf e = 1) (hn : zs.length = n) (hct : P.cellsOf t = n)
  (h : DataW.trod enc P w 0 (fun _ => true) held fuel t cs = some (.agg (zs.map fun z => .lit (.int k z)), p)) : cs = zs.map fun z => Value.int k z := by
 obtain ⟨xs, f, rfl, hx0, hl, hxs⟩ := trod_array ht h
 have hd : zs.map (fun z => DataW.lit (.int k z)) = xs.map (·.1) := by
  have := congrArg Prod.fst hx0
  simpa using this
 clear h hx0
 rw [hct] at hl
 ·have hlen := mapM_some_length hxs
  apply List.ext_getElem
  ·simp [hl, hn]
  ·intro i h1 h2
   have hi : i < n := by omega
   have hx := mapM_some_get hxs i i (by simp [hi])
   have hxi : i < xs.length := by rw [hlen]; simpa using hi
   rw [List.getElem?_eq_getElem hxi] at hx
   have e1 : ((cs.drop (i * P.cellsOf e)).take (P.cellsOf e)) = [cs[i]] := by
    rw [hc, Nat.mul_one, List.drop_eq_getElem_cons h1]; rfl
   rw [e1] at hx
   obtain ⟨m, hm, hm2, -⟩ := DataW.trod_int he hx
   have hm' : cs[i] = .int k m := by simpa using hm
   have hd' := congrArg (fun l => l[i]?) hd
   simp only [List.getElem?_map, List.getElem?_eq_getElem hxi, Option.map_some] at hd'
   have hz : i < zs.length := by omega
   rw [List.getElem?_eq_getElem hz] at hd'
   simp only [Option.map_some, Option.some.injEq] at hd'
   rw [hm2] at hd'
   simp only [DataW.lit.injEq, Lit.int.injEq, true_and] at hd'
   rw [hm']; simp [hd']

theorem row_of_laid {k : IntKind} {n : String} {g : Nat} {t e : TypeId} {m : Nat} {zs : List Int} {l : List (String × DataW Unit)} (hL : laidMetH P l w) (hp : (l.all fun x => x.2.handleName?.isNone) = true) (hm : (n, DataW.agg (zs.map fun z => .lit (.int k z))) ∈ l)
  (hg : P.globalNamed n = some g) (hgt : (P.globals[g]?).map (·.type) = some t) (ht : P.underlying t = some (.array m e)) (he : P.underlying e = some (.int k)) (hc : P.cellsOf e = 1) (hn : zs.length = m) (hct : P.cellsOf t = m) :
  Row w g 0 (zs.map fun z => .int k z) := by
 rw [Go.MakeChecks.laidMetH_plain _ _ _ hp] at hL
 obtain ⟨ps, hv, -⟩ := hL
 have key : ∀ (l : List (String × DataW Unit)) (ps : List MemPlace), DataW.LaidVars P w l ps → (n, DataW.agg (zs.map fun z => .lit (.int k z))) ∈ l → ∃ cs, w.var? P n = some cs ∧ cs.toList = zs.map fun z => .int k z := by
  intro l
  induction l with
  | nil => intro ps _ h; simp at h
  | cons x r ih =>
   intro ps hv h
   obtain ⟨n', d'⟩ := x
   obtain ⟨g', t', cs, fuel, p, q, h1, h2, h3, h4, h5, -⟩ := hv
   rcases List.mem_cons.1 h with h | h
   ·injection h with ha hb
    subst ha; subst hb
    rw [hg] at h1; injection h1 with h1; subst h1
    rw [hgt] at h2; injection h2 with h2; subst h2
    exact ⟨cs, h3, ints_of_trod ht he hc hn hct h4⟩
   ·exact ih q h5 h
 obtain ⟨cs, h1, h2⟩ := key l ps hv hm
 intro i v hi
 rw [Nat.zero_add, World.var?_cell hg h1 i, ← h2] at *
 simpa using hi

end
end Go.Sg
end
section
/- What the listed variables hold. -/
set_option maxRecDepth 4000
namespace Go.Sg
open Go.Rn Go.Sha Go.Proofs
theorem start_of_laid {n : String} {W : World} {l : List (String × DataW Unit)} (hg : Tryz.prog.globalNamed n = some 0) (hp : (l.all fun x => x.2.handleName?.isNone) = true) (hm : (n, DataW.agg ((init8.l.map fun x => (x.toNat : Int)).map fun z => .lit (.int .u32 z))) ∈ l) (h : laidMetH Tryz.prog l W) : Row W 0 0 (vals init8.l) := by
 have := row_of_laid h hp hm hg (by kernel_rfl) Tryz.underlying141 Tryz.underlying140 (by kernel_rfl) rfl (by kernel_rfl)
 rw [List.map_map] at this
 exact this
theorem numbers_of_laid {n : String} {W : World} {l : List (String × DataW Unit)} (hg : Tryz.prog.globalNamed n = some 1) (hp : (l.all fun x => x.2.handleName?.isNone) = true) (hm : (n, DataW.agg ((kTab.map fun x => (x.toNat : Int)).map fun z => .lit (.int .u32 z))) ∈ l) (h : laidMetH Tryz.prog l W) : Row W 1 0 (vals kTab) := by
 have := row_of_laid h hp hm hg (by kernel_rfl) Tryz.underlying169 Tryz.underlying140 (by kernel_rfl) rfl (by kernel_rfl)
 rw [List.map_map] at this
 exact this
end Go.Sg
end
section
/- Arguments that are structs. -/
set_option maxRecDepth 4000
namespace Go.Sg
open Go.Rn Go.RowKit Go.WideShapes Go.ChangeShapes
section
variable {H : Type} {enc : TypeId × Value → H} {P : Program} {w : World}
theorem shp_two {t ti : TypeId} (h : TwoInts P t ti) (hc : P.cellsOf t = 2) (hi : P.cellsOf ti = 1) {fuel : Nat} {cs : List Value} (hs : Shp P w fuel t cs) :
  ∃ a b, cs = [.int .i64 a, .int .i64 b] ∧ (Lit.int .i64 a).wf = true ∧ (Lit.int .i64 b).wf = true := by
 obtain ⟨hl, f, hs⟩ := hs.struct h.und
 have hf := h.fields
 generalize (P.fieldsOf t).toList = fs at hf hs
 obtain ⟨f0, f1, rfl⟩ : ∃ f0 f1, fs = [f0, f1] := by
  rcases fs with _ | ⟨f0, _ | ⟨f1, _ | ⟨f2, r⟩⟩⟩
  ·simp at hf
  ·simp at hf
  ·exact ⟨f0, f1, rfl⟩
  ·simp at hf
 simp only [List.map_cons, List.map_nil, List.cons.injEq, Prod.mk.injEq, and_true] at hf
 obtain ⟨⟨-, t0, o0⟩, -, t1, o1⟩ := hf
 have h0 := hs f0 (by simp)
 have h1 := hs f1 (by simp)
 rw [t0, o0, hi] at h0
 rw [t1, o1, hi] at h1
 obtain ⟨a, e0, w0⟩ := h0.int h.int
 obtain ⟨b, e1, w1⟩ := h1.int h.int
 rw [hc] at hl
 match cs, hl with
 | [x, y], _ =>
  simp at e0 e1
  exact ⟨a, b, by rw [e0, e1], w0, w1⟩
end
end Go.Sg
end
section
/- Deeds: arguments. -/
set_option maxRecDepth 4000
namespace Go.Dee
open Go.Rn Go.RowKit Go.Rec Go.Sha Go.Sg
theorem bytes_of_get : ∀ (cs : List Value), (∀ i, i < cs.length → ∃ b : UInt8, cs[i]? = some (.int .u8 (b.toNat : Int))) → ∃ l : List UInt8, cs = bytesV l
 | [], _ => ⟨[], rfl⟩
 | c :: cs, h => by
  obtain ⟨b, hb⟩ := h 0 (by simp)
  simp only [List.getElem?_cons_zero, Option.some.injEq] at hb
  obtain ⟨l, rfl⟩ := bytes_of_get cs fun i hi => by
   have := h (i + 1) (by simpa using hi)
   simpa using this
  exact ⟨b :: l, by rw [hb]; rfl⟩
theorem drop_split (cs : List Value) (a b : Nat) : cs.drop a = (cs.drop a).take b ++ cs.drop (a + b) := by
 rw [← List.drop_drop, List.take_append_drop]
end Go.Dee
namespace Go.Sg
open Go.Rn Go.Proofs Go.Dee Go.Rec Go.RowKit Go.WideShapes Go.ChangeShapes Go.Sha
theorem shp_rowsD {P : Program} {w : World} {α : Type} {en : α → List Value} {k : Nat} (hk : EncOk en k) {wfx : α → Prop} {t e : TypeId} {fuel : Nat} {cs : List Value} (ht : P.underlying t = some (.slice e)) (hs : P.cellsOf e = k)
  (hrow : ∀ fuel cs, Shp P w fuel e cs → ∃ x, cs = en x ∧ wfx x) (hf : Shp P w fuel t cs) : ∃ u, ∃ l : List α, cs = [u] ∧ l.length < 9223372036854775808 ∧ IsL w en k u l ∧ ∀ x ∈ l, wfx x := by
 obtain ⟨f, u, m, rows, hv, hm, hr, hrs, hsl⟩ := hf.slice ht hs hk.pos
 obtain ⟨l, hl, hw⟩ : ∃ l : List α, rows = l.map en ∧ ∀ x ∈ l, wfx x := by
  clear hr hsl
  induction rows with
  | nil => exact ⟨[], rfl, by simp⟩
  | cons r rs ih =>
   obtain ⟨l, rfl, h2⟩ := ih fun r hr => hrs r (List.mem_cons_of_mem _ hr)
   obtain ⟨x, rfl, hx⟩ := hrow f r (hrs r List.mem_cons_self).2
   exact ⟨x :: l, rfl, fun y hy => by
    rcases List.mem_cons.1 hy with rfl | hy
    ·exact hx
    ·exact h2 y hy⟩
 subst hl
 have hlm : l.length = m := by simpa using hr
 refine ⟨u, l, hv, by simp only [maxLen] at hm; omega, ?_, hw⟩
 rw [← hlm] at hsl
 exact hsl
section
variable {H : Type} {enc : TypeId × Value → H} {w : World}
set_option maxRecDepth 4000 in
theorem dig_row (fuel : Nat) (cs : List Value) (h : Shp Tryz.prog w fuel 32 cs) : ∃ x : Dg, cs = digC x ∧ True := by
 obtain ⟨hl, f, hs⟩ := h.array (by kernel_rfl : Tryz.prog.underlying 32 = some (.array 32 5))
 have h1 : Tryz.prog.cellsOf 32 = 32 := by kernel_rfl
 have h2 : Tryz.prog.cellsOf 5 = 1 := by kernel_rfl
 rw [h1] at hl
 obtain ⟨l, hb⟩ := bytes_of_get cs fun i hi => by
  have hi' : i < 32 := by omega
  have := hs i hi'
  rw [h2, Nat.mul_one] at this
  obtain ⟨n, e, hn⟩ := this.int Tryz.underlying5
  obtain ⟨b0, b1⟩ := u8_of_wf hn
  have e2 := congrArg (·[0]?) e
  simp only [List.getElem?_take, List.getElem?_drop, Nat.add_zero, List.getElem?_cons_zero] at e2
  refine ⟨UInt8.ofNat n.toNat, ?_⟩
  rw [if_pos (by omega)] at e2
  rw [e2]
  congr 2
  simp; omega
 subst hb
 rw [bytesV_length] at hl
 exact ⟨⟨l, hl⟩, (digC_eq ⟨l, hl⟩).symm, trivial⟩
set_option maxRecDepth 4000 in
theorem deed_row (fuel : Nat) (cs : List Value) (h : Shp Tryz.prog w fuel 38 cs) : ∃ x : Dr, cs = x.cells ∧ (WfD x.d ∧ x.d.seen.length < 9223372036854775808 ∧ x.d.data.length < 9223372036854775808 ∧ HoldR w x) := by
 obtain ⟨hl, f, hs⟩ := h.struct (by kernel_rfl : Tryz.prog.underlying 38 = some (.struct (Tryz.prog.fieldsOf 38)))
 have hf : (Tryz.prog.fieldsOf 38).toList.map (fun f => (f.type, f.offset)) = [(3, 0), (3, 1), (3, 2), (32, 3), (33, 35), (34, 36), (36, 37)] := by kernel_rfl
 have hc : Tryz.prog.cellsOf 38 = 39 := by kernel_rfl
 have hi : Tryz.prog.cellsOf 3 = 1 := by kernel_rfl
 have hg : Tryz.prog.cellsOf 32 = 32 := by kernel_rfl
 have hsl : Tryz.prog.cellsOf 33 = 1 := by kernel_rfl
 have hbl : Tryz.prog.cellsOf 34 = 1 := by kernel_rfl
 have hsg : Tryz.prog.cellsOf 36 = 2 := by kernel_rfl
 generalize (Tryz.prog.fieldsOf 38).toList = fs at hf hs
 obtain ⟨f0, f1, f2, f3, f4, f5, f6, rfl⟩ : ∃ f0 f1 f2 f3 f4 f5 f6, fs = [f0, f1, f2, f3, f4, f5, f6] := by
  rcases fs with _ | ⟨f0, _ | ⟨f1, _ | ⟨f2, _ | ⟨f3, _ | ⟨f4, _ | ⟨f5, _ | ⟨f6, _ | ⟨f7, r⟩⟩⟩⟩⟩⟩⟩⟩
  all_goals first | exact ⟨_, _, _, _, _, _, _, rfl⟩ | simp at hf
 simp only [List.map_cons, List.map_nil, List.cons.injEq, Prod.mk.injEq, and_true] at hf
 obtain ⟨⟨t0, o0⟩, ⟨t1, o1⟩, ⟨t2, o2⟩, ⟨t3, o3⟩, ⟨t4, o4⟩, ⟨t5, o5⟩, t6, o6⟩ := hf
 have h0 := hs f0 (by simp)
 have h1 := hs f1 (by simp)
 have h2 := hs f2 (by simp)
 have h3 := hs f3 (by simp)
 have h4 := hs f4 (by simp)
 have h5 := hs f5 (by simp)
 have h6 := hs f6 (by simp)
 rw [t0, o0, hi] at h0
 rw [t1, o1, hi] at h1
 rw [t2, o2, hi] at h2
 rw [t3, o3, hg] at h3
 rw [t4, o4, hsl] at h4
 rw [t5, o5, hbl] at h5
 rw [t6, o6, hsg] at h6
 obtain ⟨a0, e0, w0⟩ := h0.int Tryz.underlying3
 obtain ⟨a1, e1, w1⟩ := h1.int Tryz.underlying3
 obtain ⟨a2, e2, w2⟩ := h2.int Tryz.underlying3
 obtain ⟨g, e3, -⟩ := dig_row _ _ h3
 obtain ⟨u, sn, e4, l4, L4, -⟩ := shp_rowsD encG Tryz.underlying33 hg dig_row h4
 obtain ⟨v, l, e5, l5, L5⟩ := h5.bytes Tryz.underlying34 Tryz.underlying5 (by kernel_rfl)
 obtain ⟨E, S, e6, wE, wS⟩ := shp_two sigTwo hsg hi h6
 obtain ⟨ua, uc, rfl⟩ := isSl_slice L4
 obtain ⟨va, vc, rfl⟩ := isSl_slice L5
 refine ⟨⟨⟨a0, a1, a2, g, sn, l, E, S⟩, ua, uc, va, vc⟩, ?_, ⟨i64_of_wf w0, i64_of_wf w1, i64_of_wf w2, i64_of_wf wE, i64_of_wf wS⟩, l4, by simp only [maxLen] at l5; show l.length < _; omega, L4, L5⟩
 have c0 := drop_split cs 0 1
 have c1 := drop_split cs 1 1
 have c2 := drop_split cs 2 1
 have c3 := drop_split cs 3 32
 have c4 := drop_split cs 35 1
 have c5 := drop_split cs 36 1
 have c6 := drop_split cs 37 2
 have c7 : cs.drop 39 = [] := List.drop_eq_nil_iff.2 (by omega)
 rw [List.drop_zero] at c0 e0
 rw [c0, e0, c1, e1, c2, e2, c3, e3, c4, e4, c5, e5, c6, e6, c7]
 rfl
end
end Go.Sg
end
section
/- A region whose order is drawn, in which something is stored. -/
set_option maxRecDepth 4000
namespace Go.Rn
open Go.RowKit
section
variable {P : Program} {c : Ctx} {k : List Item} {Q : Out → Act → World → Prop} {w0 : World} {n : Nat} {ds : List Deferred} {env : Env} {S : Nat → Prop} {sats pres : List (Nat × Pred)} {ph : Option (Option Nat × Pred)} {mu : List Bool}
variable {l : List Oper} {d : Tmp} {op : Op} {ty : TypeId} {pos : String} {after : Array Edge} {guard : Option (Nat × Bool)} {rest : List Oper}
/-- It writes and gives nothing; nothing has been written yet. -/
theorem Asy.wriN (V : World → Prop) (hw : wantE l env ⟨none, op, ty, pos, after, guard⟩ = some true) (hd : isDefer op = false) (hs : isSel op = false)
  (hV : ∀ w' w'', ExtB S w0 w' → Ext w' w'' → V w' → V w'')
  (h : ∀ w', Ext w0 w' → OpE P env w' ⟨none, op, ty, pos, after, guard⟩ (fun _ w'' => ExtB S w' w'' ∧ V w'') fun _ _ => False)
  (h' : Asy P c n ds S w0 l k Q rest ⟨env, sats, some (none, fun _ w => V w), true :: mu, pres⟩) : Asy P c n ds S w0 l k Q (⟨none, op, ty, pos, after, guard⟩ :: rest) ⟨env, sats, none, mu, pres⟩ :=
 .step (e := .wri fun _ w => V w) ⟨rfl, hs, hw, hd, fun _ => hV, fun w' ρ hx hg _ => h w' hx ρ hg.ev⟩ h'
theorem Asy.tailN {U : Pred} (hc : chk l mu.reverse l [] = true) (h : ∀ w' x, ExtB S w0 w' → U x w' → satsAll sats w' env fun e => RunL P c n ds l.toArray rest k Q e w') :
  Asy P c n ds S w0 l k Q rest ⟨env, sats, some (none, U), mu, pres⟩ :=
 ⟨[], hc, fun w' xs hx hs hp i hi a ha => by
  obtain ⟨x, hU, -⟩ := hp
  exact satsAll_run (xs := xs) sats env hs (h w' x hx hU) i hi a (ha.sub fun t' v ht => get_swap (A := sats.map fun s => (s.1, xs s.1)) (xs := xs) (by
   intro t v hm
   obtain ⟨s, -, he⟩ := List.mem_map.1 hm
   injection he with h1 h2; subst h1; exact h2.symm) t' v ht)⟩
end
end Go.Rn
end
section
/- As AsyK; of what is stored at an address that the region itself has made, the address is known. -/
set_option maxRecDepth 4000
namespace Go.RnW
open Go.RowKit Go.Rn
/-- The early ones come before all that write. -/
def earChk (mu : List Bool) (E : List Nat) : List Oper → List Nat → Bool
 | [], _ => true
 | o :: rest, ms => (bif mu.getD ms.length false then E.all (fun i => (maskOf ms o).testBit i) else true) && earChk mu E rest (ms ++ [maskOf ms o])
/-- The last operation that wrote. -/
def lastMut : List Bool → Option Nat
 | [] => none
 | true :: r => some r.length
 | false :: r => lastMut r
/-- It stores, at an address that an operation before it has made. -/
def namedO (l : List Oper) (j : Nat) (o : Oper) (t : Nat) : Prop := o.dst = none ∧ (∃ ty y, o.op = .store ty (.tmp t) y) ∧ ∃ (i : Nat) (x : Oper), i < j ∧ l[i]? = some x ∧ x.dst = some t
def PhOk (S : World → World → Prop) (w0 : World) (ops : Array Oper) (s : Know) (o : Oper) (w' : World) (ρ : Operand → Value) : Prop :=
 match s.ph with
 | none => Ext w0 w'
 | some (d, U) => S w0 w' ∧ ∃ x, U x w' ∧ ∀ t, d = some t → t ∈ o.looksAt ops → ρ (.tmp t) = x

def OpOk (P : Program) (n : Nat) (E : List Nat) (S : World → World → Prop) (w0 : World) (ops : Array Oper) (s : Know) (o : Oper) : Ent → Prop
 | .val v => dstOk n o.dst = true ∧ isSel o.op = false ∧ ((wantE ops.toList s.env o = some false ∧ v = undef) ∨
   (wantE ops.toList s.env o = some true ∧ isDefer o.op = false ∧
    ∀ w' ρ, (if E.contains s.mu.length = true then Ext w0 w' else S w0 w') → Goes ops s o w' ρ → ExecE P (execOp ρ o) w' (fun u w'' => u = v ∧ Ext w' w'') fun _ _ => False))
 | .sat V => dstOk n o.dst = true ∧ isSel o.op = false ∧ wantE ops.toList s.env o = some true ∧ isDefer o.op = false ∧
   (∀ v w' w'', S w0 w' → S w' w'' → V v w' → V v w'') ∧
   ∀ w' ρ, S w0 w' → Goes ops s o w' ρ → ExecE P (execOp ρ o) w' (fun u w'' => Ext w' w'' ∧ V u w'') fun _ _ => False
 | .wri V => dstOk n o.dst = true ∧ isSel o.op = false ∧ wantE ops.toList s.env o = some true ∧ isDefer o.op = false ∧
   (∀ v w' w'', S w0 w' → Ext w' w'' → V v w' → V v w'') ∧
   ∀ w' ρ, PhOk S w0 ops s o w' ρ → Goes ops s o w' ρ → (s.ph = none → ∀ d V, (d, V) ∈ s.pres → d ∈ o.looksAt ops → V (ρ (.tmp d)) w') → ExecE P (execOp ρ o) w' (fun u w'' => S w' w'' ∧ ∃ x, V x w'' ∧ (∀ t, o.dst = some t → u = x) ∧ ∀ ty t y, o.dst = none → o.op = .store ty (.tmp t) y → ρ (.tmp t) = x) fun _ _ => False
 | .pre V => dstOk n o.dst = true ∧ isSel o.op = false ∧ wantE ops.toList s.env o = some true ∧ isDefer o.op = false ∧
   (∀ v w' w'', S w0 w' → Ext w' w'' → V v w' → V v w'') ∧
   ∀ w' ρ, S w0 w' → Goes ops s o w' ρ → ExecE P (execOp ρ o) w' (fun u w'' => Ext w' w'' ∧ V u w'') fun _ _ => False

/-- What has to be shown of the operations that are left. -/
def AsyF (P : Program) (n : Nat) (E : List Nat) (S : World → World → Prop) (w0 : World) (ops : Array Oper) (T : Know → List Oper → Prop) : List Ent → List Oper → Know → Prop
 | [], rest, s => T s rest
 | e :: es, o :: rest, s => OpOk P n E S w0 ops s o e ∧ AsyF P n E S w0 ops T es rest (s.add o.dst e)
 | _ :: _, [], _ => False

section
variable {P : Program} {c : Ctx} {n : Nat} {ds : List Deferred} {l : List Oper} {es : List Ent} {env : Env} {E : List Nat} {S : World → World → Prop} {w0 : World} {k : List Item} {Q : Out → Act → World → Prop}

abbrev Lst (listed : Array Bool) (j : Nat) : Prop := listed.getD j false = true

structure Inv (n : Nat) (ds : List Deferred) (l : List Oper) (es : List Ent) (env : Env) (S : World → World → Prop) (w0 : World) (listed : Array Bool) (a : Act) (w : World) : Prop where
 lsz : listed.size = l.length
 sz : a.tmps.size = n
 df : a.defers = ds
 ext : S w0 w
 lt : ∀ j, Lst listed j → j < es.length
 down : ∀ (j : Nat) (o : Oper) e, Lst listed j → l[j]? = some o → e ∈ o.after → Region.binds .any e = true → Lst listed e.on
 val : ∀ (j : Nat) (o : Oper) v t, Lst listed j → l[j]? = some o → es[j]? = some (.val v) → o.dst = some t → a.tmps[t]? = some v
 sat : ∀ (j : Nat) (o : Oper) V t, Lst listed j → l[j]? = some o → es[j]? = some (.sat V) → o.dst = some t → V (a.eval (.tmp t)) w
 wri : (Ext w0 w ∧ ∀ (j : Nat) e, Lst listed j → es[j]? = some e → e.isMut = false) ∨
  (∃ (j : Nat) (o : Oper) (U : Pred), Lst listed j ∧ l[j]? = some o ∧ es[j]? = some (.wri U) ∧ (∀ (i : Nat) e, Lst listed i → es[i]? = some e → e.isMut = true → i ≤ j) ∧
   ∃ x, U x w ∧ (∀ t, o.dst = some t → a.eval (.tmp t) = x) ∧ ∀ t, namedO l j o t → a.eval (.tmp t) = x)
 base : ∀ t v, env.get t = some v → (∀ (j : Nat) (o : Oper), Lst listed j → l[j]? = some o → o.dst ≠ some t) → a.tmps[t]? = some v
 pre : (∀ (j : Nat) e, Lst listed j → es[j]? = some e → e.isMut = false) → ∀ (j : Nat) (o : Oper) V t, Lst listed j → l[j]? = some o → es[j]? = some (.pre V) → o.dst = some t → V (a.eval (.tmp t)) w

variable (hok : Okay l (es.map Ent.isMut)) (hop : ∀ (i : Nat) o e, l[i]? = some o → es[i]? = some e → OpOk P n E S w0 l.toArray (stN l es (know0 env) i) o e) (hm : es.length ≤ l.length)
include hok hm

def tailEnv (s : Know) (xs : Nat → Value) : Env :=
 s.sats.map (fun e => (e.1, xs e.1)) ++ ((match s.ph with | some (some t, _) => [(t, xs t)] | _ => []) ++ s.env)

omit hok hop hm in
def AsyT (P : Program) (c : Ctx) (n : Nat) (ds : List Deferred) (E : List Nat) (S : World → World → Prop) (w0 : World) (l : List Oper) (k : List Item) (Q : Out → Act → World → Prop) (s : Know) (rest : List Oper) : Prop :=
 chk l s.mu.reverse l [] = true ∧ earChk s.mu.reverse E l [] = true ∧ ∀ w' (xs : Nat → Value), S w0 w' → (∀ d V, (d, V) ∈ s.sats → V (xs d) w') →
  (match s.ph with | none => Ext w0 w' | some (d, U) => ∃ x, U x w' ∧ (∀ t, d = some t → xs t = x) ∧ ∀ j o t, lastMut s.mu = some j → l[j]? = some o → namedO l j o t → xs t = x) → RunL P c n ds l.toArray rest k Q (tailEnv s xs) w'

omit hok hop hm in
end

/-- Of a region whose order is drawn. -/
def Asy (P : Program) (c : Ctx) (n : Nat) (ds : List Deferred) (E : List Nat) (S : World → World → Prop) (w0 : World) (l : List Oper) (k : List Item) (Q : Out → Act → World → Prop) (rest : List Oper) (s : Know) : Prop :=
 ∃ es, AsyF P n E S w0 l.toArray (AsyT P c n ds E S w0 l k Q) es rest s

end Go.RnW
/-! AsyKL: its steps. -/
namespace Go.RnW
open Go.RowKit Go.Rn
section
variable {P : Program} {c : Ctx} {k : List Item} {Q : Out → Act → World → Prop} {w0 : World} {n : Nat} {ds : List Deferred} {env : Env} {E : List Nat} {S : World → World → Prop} {sats pres : List (Nat × Pred)} {ph : Option (Option Nat × Pred)} {mu : List Bool}
variable {l : List Oper} {d : Tmp} {op : Op} {ty : TypeId} {pos : String} {after : Array Edge} {guard : Option (Nat × Bool)} {rest : List Oper}
end
end Go.RnW
end
section
/- Deeds: lists built whole; keys and logs as arguments (for chapter 50). -/
set_option maxRecDepth 4000
namespace Go.Rn
end Go.Rn
namespace Go.Rn
open Go.RowKit
end Go.Rn
namespace Go.Rec
open Go.Rn
theorem OpE.buildN {P : Program} {w : World} {env : Env} {dst : Option Tmp} {ty : TypeId} {pos : String} {after : Array Edge} {guard : Option (Nat × Bool)} {α : Type} {enc : α → List Value} {k : Nat} (h : EncOk enc k) {T : Tab} (hT : T.Ok P) {t e : TypeId} {ag : Bool} {s b len : Nat} {z : List Value} {a u : Bool} {ie : TI} {parts : Array (Nat × Operand)} (l : List α)
  (ht : T.get t = some ⟨.slc k ag e, s, b, z, a, u⟩) (he : T.get e = some ie) (hz : ie.zero.length = k) (hlen : Nat.ble (len * k) 16777216 = true) (hp : evParts env parts.toList = some (enumV 0 (l.map fun x => Value.agg (enc x).toArray)))
  (hl : l.length = len) :
  OpE P env w ⟨dst, .buildSlice t len parts, ty, pos, after, guard⟩ (fun v w' => (∃ B, v = .slice (some ⟨B, 0, none⟩) l.length l.length ∧ w.heap.size ≤ B) ∧ IsL w' enc k v l ∧ Ext w w') fun _ _ => False := by
 refine OpE.mono (OpE.buildSl hT _ ht he hz hlen hp (by rw [List.length_map]; exact hl) fun v hv => ?_) ?_ fun _ _ h => h
 ·obtain ⟨x, -, rfl⟩ := List.mem_map.1 hv
  exact h.len x
 ·rintro _ w' ⟨B, rfl, a⟩
  rw [cellsAll_flat] at a
  subst hl
  exact ⟨⟨B, rfl, Nat.le_of_eq a.eq.symm⟩, isSl_added a (flat_length h l), a.ext⟩
end Go.Rec
namespace Go.Sg
open Go.Rn Go.Proofs Go.Dee Go.Rec Go.RowKit Go.WideShapes Go.ChangeShapes Go.Sha
theorem WfX.up {w w' : World} {x : Dr} (h : WfX w x) (e : Ext w w') : WfX w' x := ⟨h.1, h.2.1, h.2.2.1, h.2.2.2.up e⟩
section
variable {H : Type} {enc : TypeId × Value → H} {w : World}
set_option maxRecDepth 4000 in
theorem int_row (fuel : Nat) (cs : List Value) (h : Shp Tryz.prog w fuel 3 cs) : ∃ x : Int, cs = intC' x ∧ (-9223372036854775808 ≤ x ∧ x < 9223372036854775808) := by
 obtain ⟨a, e, wf⟩ := h.int Tryz.underlying3
 exact ⟨a, e, i64_of_wf wf⟩
set_option maxRecDepth 4000 in
theorem keys_open {v : Value} {d : DataW H} {ps : List MemPlace} {held : Bool} {r : Reach} {b0 : Nat} (hval : Value.okWide Tryz.prog w r b0 22 v)
  (h : DataW.Trod enc Tryz.prog w 0 (fun _ => true) held 22 v d ps) : ∃ l : List Int, (l.length < 9223372036854775808 ∧ KsI l) ∧ LIn w v l := by
 obtain ⟨l, h1, h2, h3⟩ := open_rows encIn Tryz.underlying22 (by kernel_rfl) int_row hval h
 exact ⟨l, ⟨h1, h3⟩, h2⟩
end
end Go.Sg
namespace Go.Dee
open Go.Rn Go.Sg
end Go.Dee
end
section
/- Merge: what is left, in a map. -/
set_option maxRecDepth 4000
namespace Go.Mer
open Go.Rn Go.Rec Go.Dee Go.RowKit
def plC (p : Int × Int) : List Value := [.int .i64 p.1, .int .i64 p.2]
abbrev plV : Int × Int → Value := encV' plC
abbrev MapL (w : World) (r : Nat) (m : List ((Int × Int) × Value)) : Prop := MapK plV (fun _ => True) w r m
def grpD (out : List Dr) (k : Int × Int) : List Dr := atL Dr.d out k.1 k.2
theorem grp_any (out : List Dr) (d : Deed) : ((grpD out (d.person, d.no)).any fun y => sameF y.d d) = thereL Dr.d out d := by
 unfold grpD thereL atL
 rw [List.any_filter, Bool.eq_iff_iff]
 simp only [List.any_eq_true, Bool.and_eq_true, decide_eq_true_eq]
 constructor
 ·rintro ⟨y, h, -, h2⟩; exact ⟨y, h, h2⟩
 ·rintro ⟨y, h, h2⟩; exact ⟨y, h, ⟨(sameF_iff.1 h2).1, (sameF_iff.1 h2).2.1⟩, h2⟩
theorem grp_snoc (out : List Dr) (x : Dr) : grpD (out ++ [x]) (x.d.person, x.d.no) = grpD out (x.d.person, x.d.no) ++ [x] := by
 unfold grpD atL
 rw [List.filter_append]; simp
theorem grp_other (out : List Dr) (x : Dr) (k : Int × Int) (h : k ≠ (x.d.person, x.d.no)) : grpD (out ++ [x]) k = grpD out k := by
 unfold grpD atL
 rw [List.filter_append]
 have : ¬ (x.d.person = k.1 ∧ x.d.no = k.2) := fun ⟨h1, h2⟩ => h (Prod.ext h1.symm h2.symm)
 simp [this]
theorem grp_sub {out : List Dr} {k : Int × Int} {y : Dr} (h : y ∈ grpD out k) : y ∈ out := (List.mem_filter.1 h).1
theorem grp_len (out : List Dr) (k : Int × Int) : (grpD out k).length ≤ out.length := List.length_filter_le _ _
section
variable {α : Type} (f : α → Deed)
theorem leftL_snoc (ks : List Int) (l : List α) (x : α) : leftL f ks (l ++ [x]) = stepL f ks (leftL f ks l) x := by
 unfold leftL
 rw [List.foldl_append]; rfl
theorem step_sub {ks : List Int} {out : List α} {x y : α} (h : y ∈ stepL f ks out x) : y ∈ out ∨ y = x := by
 unfold stepL at h
 split at h
 ·simpa using h
 ·exact .inl h
theorem foldL_sub (ks : List Int) : ∀ (l out : List α) (y : α), y ∈ l.foldl (stepL f ks) out → y ∈ out ∨ y ∈ l
 | [], out, y, h => .inl h
 | x :: l, out, y, h => by
  rcases foldL_sub ks l _ y h with h | h
  ·rcases step_sub f h with h | rfl
   ·exact .inl h
   ·exact .inr List.mem_cons_self
  ·exact .inr (List.mem_cons_of_mem _ h)
theorem leftL_sub {ks : List Int} {l : List α} {y : α} (h : y ∈ leftL f ks l) : y ∈ l := (foldL_sub f ks l [] y h).resolve_left (by simp)
theorem foldL_len (ks : List Int) : ∀ (l out : List α), (l.foldl (stepL f ks) out).length ≤ out.length + l.length
 | [], out => by simp
 | x :: l, out => by
  have h := foldL_len ks l (stepL f ks out x)
  have h2 : (stepL f ks out x).length ≤ out.length + 1 := by unfold stepL; split <;> simp
  rw [List.foldl_cons, List.length_cons]; omega
theorem setM_len {κ β : Type} [DecidableEq κ] (k : κ) (v : β) (m : List (κ × β)) : (setM k v m).length ≤ m.length + 1 := by
 have := congrArg List.length (setM_keys k v m)
 rw [List.length_map] at this
 rw [this]
 split <;> simp
theorem leftL_len (ks : List Int) (l : List α) : (leftL f ks l).length ≤ l.length := by have := foldL_len f ks l []; simpa [leftL] using this
end
end Go.Mer
namespace Go.Sg
open Go.Rn Go.Proofs Go.Dee Go.Mer Go.Rec Go.RowKit Go.Sha Go.Cod Go.NT
theorem plFlat : Flat Tryz.prog 71 [(3, .int .i64), (3, .int .i64)] :=
 ⟨by kernel_rfl, by kernel_rfl, by kernel_rfl, by kernel_rfl, by kernel_rfl, fun x hx => by
  simp only [List.mem_cons, List.not_mem_nil, or_false] at hx
  rcases hx with rfl | rfl
  ·exact ⟨Tryz.underlying3, by kernel_rfl, by kernel_rfl⟩
  ·exact ⟨Tryz.underlying3, by kernel_rfl, by kernel_rfl⟩⟩
theorem plKey : KeyOk Tryz.prog 71 plV fun _ => True := keyOk_flat plFlat (fun s => ⟨rfl, fun i y h => by
  rcases i with _ | _ | n
  all_goals (simp only [List.getElem?_cons_zero, List.getElem?_cons_succ, List.getElem?_nil, Option.some.injEq, reduceCtorEq] at h)
  all_goals (subst h; exact ⟨_, rfl, _, rfl⟩)⟩) fun a b => by
 obtain ⟨a1, a2⟩ := a; obtain ⟨b1, b2⟩ := b
 simp [eqAll, veq, plC]
 rw [Bool.eq_iff_iff]; simp
abbrev GrpL (w : World) (base : Nat) (m : List ((Int × Int) × Value)) (out : List Dr) : Prop := GrpOk Dr.cells 39 38 w base m (grpD out)
attribute [local irreducible] leftL keysD fineD Go.Rn.RetsX Go.Rn.RunLN Go.Rn.AsyN Go.Rn.RunL Go.Rn.RunE Go.Rn.Asy Go.Rn.OpV Go.Rn.OpE Go.Rn.ExecE
set_option maxRecDepth 8000 in
set_option maxHeartbeats 8000000 in
theorem mleft_ok (ks : List Int) (kv : Value) (ls : List Ll) (lv : Value) (w : World) (hk : LIn w kv ks) (hkl : ks.length < 9223372036854775808) (hki : KsI ks) (hkd : keysD ks = true) (hv : LLl w lv ls) (hl : ls.length < 9223372036854775808)
  (hp : ∀ x ∈ ls, LDr w x.v x.l) (hd : ∀ x ∈ allD ls, WfX w x) (hn : lenD ls ≤ 4096) (hS : Row w 0 0 (vals init8.l)) (hkT : Row w 1 0 (vals kTab)) :
  Rets Tryz.prog 29 [kv, lv] w fun r w' => (∃ R m, r = .map (some R) ∧ w.heap.size ≤ R ∧ MapL w' R m ∧ GrpL w' w.heap.size m (leftL Dr.d ks (allD ls)) ∧ (m.map (·.1)).Nodup ∧ m.length ≤ (leftL Dr.d ks (allD ls)).length) ∧ Ext w w' := by
 have cR : ∀ (d : Dr) (w' : World), WfX w d → Ext w w' → Rets Tryz.prog 24 [kv, .agg d.cells.toArray] w' fun r w'' => r = .tuple #[.bool (fineD ks d.d), .int .i64 0] ∧ Ext w' w'' := fun d w' hw X => by
  have h := dRight_ok ks kv d.d d.u d.v w' (hk.up X) hkl hki hw.1 (hw.2.2.2.seen.up X) (hw.2.2.2.up X).data hw.2.1 hw.2.2.1 (hS.up X) (hkT.up X)
  have e1 : rightB ks d.d = fineD ks d.d := by unfold rightB; rw [hkd, Bool.true_and]
  have e2 : rightE ks = 0 := if_pos hkd
  rw [e1, e2] at h
  exact h
 clear hk hkl hki hkd hS hkT
 refine RetsX.of (nt := 60) Tryz.func29 (by kernel_rfl) rfl rfl (by simp) (by simp only [argEnv]; rfl) ?_
 have X := ExtB.refl (fun _ => False) w
 repeat' (first | refine ZzA ?_ | refine RunL.ev Tryz.tOk rfl rfl rfl ?_ | refine ZzQ ?_ | refine ZzR ?_ | refine ZzN ?_)
 refine RunL.ex rfl rfl rfl (OpE.makeMap plV (fun _ => True)) ?_
 rintro _ w1 ⟨R, rfl, a, hM⟩
 have gR := a.ge X
 replace X := X.trans a.ext
 clear a
 repeat' (first | (with_reducible refine RunLN.chk ?_; refine RunLN.int (by (rfl)) ?_) | refine ZzA ?_ | refine RunL.ev Tryz.tOk rfl rfl rfl ?_ | refine RunL.evV rfl rfl rfl (OpV.lenSl Tryz.tOk rfl rfl hv) ?_ | refine ZzQ ?_ | refine ZzR ?_ | refine ZzN ?_ | refine ZzB ?_)
 refine RunE.loop (ι := Nat × List ((Int × Int) × Value)) (fun s => [(0, kv), (1, lv), (5, .map (some R)), (14, lv), (15, .int .i64 (ls.length : Int)), (16, .int .i64 (s.1 : Int))])
  (fun s w' => s.1 ≤ ls.length ∧ Ext w w' ∧ MapL w' R s.2 ∧ GrpL w' w.heap.size s.2 (leftL Dr.d ks (allD (ls.take s.1))) ∧ (s.2.map (·.1)).Nodup ∧ s.2.length ≤ (leftL Dr.d ks (allD (ls.take s.1))).length) (fun s => ls.length - s.1) (0, []) (by repeat (first | exact Sub.nil _ | refine Sub.cons rfl ?_)) ⟨Nat.zero_le _, X, hM, GrpOk.nil _ _ (fun _ => by rw [List.take_zero]; unfold leftL; rfl), List.nodup_nil, Nat.zero_le _⟩ ?_
 clear X hM
 rintro ⟨i, m⟩ w3 ⟨hi, X, hM, hG, hN, hC⟩ again
 simp only at hi hM hG hN hC again ⊢
 by_cases hlt : i < ls.length
 ·obtain ⟨b1, o1, cc, rfl, hr1, -⟩ := isL_held hv hlt
  obtain ⟨x, hx⟩ : ∃ x, ls[i]? = some x := ⟨_, List.getElem?_eq_getElem hlt⟩
  have hrx := flat_row encLl hr1 hx
  have hxm := List.mem_of_getElem? hx
  have hxl := hp x hxm
  have hxa : ∀ y ∈ x.l, y ∈ allD ls := fun y hy => List.mem_flatMap.2 ⟨x, hxm, hy⟩
  have hall : allD (ls.take (i + 1)) = allD (ls.take i) ++ x.l := by unfold allD; rw [List.take_add_one, hx, List.flatMap_append]; simp
  have hlen : (allD (ls.take (i + 1))).length ≤ 4096 := by rw [allD_len]; exact Nat.le_trans (lenD_le ls _) hn
  have hsub : ∀ y ∈ allD (ls.take i), y ∈ allD ls := fun y hy => by
   obtain ⟨z, hz, hy⟩ := List.mem_flatMap.1 hy
   exact List.mem_flatMap.2 ⟨z, List.mem_of_mem_take hz, hy⟩
  rw [hall, List.length_append] at hlen
  obtain ⟨xl, xu, xc⟩ := x
  simp only at hlen hall hxa hxl
  generalize allD (ls.take i) = pre at hG hall hlen hsub hC
  repeat' (first | (with_reducible refine RunLN.decT ?_ ?_; focus omega) | (with_reducible refine RunLN.chk ?_; refine RunLN.int (by (rfl)) ?_) | refine ZzA ?_ | refine RunL.ev Tryz.tOk rfl rfl rfl ?_ | refine RunL.evV rfl rfl rfl (OpV.load1 Tryz.tOk rfl rfl rfl ((hrx.up X) 0 _ rfl)) ?_ | refine RunL.evV rfl rfl rfl (OpV.indexS Tryz.tOk _ rfl rfl rfl rfl (by omega)) ?_ | refine ZzT rfl rfl ?_ | refine ZzQ ?_ | refine ZzR ?_ | refine ZzN ?_ | refine ZzB ?_ | refine ZzK ?_)
  refine RunE.loop (ι := Nat × List ((Int × Int) × Value)) (fun s => [(0, kv), (1, .slice (some ⟨b1, o1, none⟩) ls.length cc), (5, .map (some R)), (14, .slice (some ⟨b1, o1, none⟩) ls.length cc), (15, .int .i64 (ls.length : Int)), (16, .int .i64 (i : Int)), (20, .slice xu xl.length xc), (21, .int .i64 (xl.length : Int)), (22, .int .i64 (s.1 : Int))])
   (fun s w' => s.1 ≤ xl.length ∧ Ext w w' ∧ MapL w' R s.2 ∧ GrpL w' w.heap.size s.2 (leftL Dr.d ks (pre ++ xl.take s.1)) ∧ (s.2.map (·.1)).Nodup ∧ s.2.length ≤ (leftL Dr.d ks (pre ++ xl.take s.1)).length) (fun s => xl.length - s.1) (0, m) (by repeat (first | exact Sub.nil _ | refine Sub.cons rfl ?_)) ⟨Nat.zero_le _, X, hM, by rw [List.take_zero, List.append_nil]; exact hG, hN, by rw [List.take_zero, List.append_nil]; exact hC⟩ ?_
  clear X hM hG hN hC
  rintro ⟨j, m⟩ w4 ⟨hj, X, hM, hG, hN, hC⟩ again2
  simp only at hj hM hG hN hC again2 ⊢
  by_cases hjl : j < xl.length
  ·obtain ⟨b2, o2, c2, e2, hr2, -⟩ := isL_held hxl hjl
   obtain ⟨d, hdj⟩ : ∃ d, xl[j]? = some d := ⟨_, List.getElem?_eq_getElem hjl⟩
   have hrd := flat_row encR hr2 hdj
   have hwd := hd d (hxa d (List.mem_of_getElem? hdj))
   injection e2 with e3 _ e4
   subst e3
   subst e4
   have hacc : leftL Dr.d ks (pre ++ xl.take (j + 1)) = stepL Dr.d ks (leftL Dr.d ks (pre ++ xl.take j)) d := by
    rw [List.take_add_one, hdj, ← List.append_assoc]
    exact leftL_snoc Dr.d ks _ d
   have hos : ∀ y ∈ leftL Dr.d ks (pre ++ xl.take j), y ∈ allD ls := fun y hy => by
    rcases List.mem_append.1 (leftL_sub Dr.d hy) with h | h
    ·exact hsub y h
    ·exact hxa y (List.mem_of_mem_take h)
   have hol : (leftL Dr.d ks (pre ++ xl.take j)).length ≤ 4096 := by
    have := leftL_len Dr.d ks (pre ++ xl.take j)
    rw [List.length_append, List.length_take] at this
    omega
   generalize leftL Dr.d ks (pre ++ xl.take j) = out at hG hos hol hacc hC
   clear hall again hr1 hrx hr2 hsub
   have hstep : stepL Dr.d ks out d = if fineD ks d.d && !((grpD out (d.d.person, d.d.no)).any fun y => sameF y.d d.d) then out ++ [d] else out := by rw [grp_any]; rfl
   have next := fun w' m' (a : Ext w w') (b : MapL w' R m') (c : GrpL w' w.heap.size m' (stepL Dr.d ks out d)) (e : (m'.map (·.1)).Nodup) (f : m'.length ≤ (stepL Dr.d ks out d).length) => again2 (j + 1, m') w' (by simp only; omega) ⟨by simp only; omega, a, b, by rw [hacc]; exact c, e, by rw [hacc]; exact f⟩
   simp only at next
   clear again2 hacc
   repeat' (first | (with_reducible refine RunLN.decT ?_ ?_; focus omega) | refine ZzA ?_ | refine RunL.ev Tryz.tOk rfl rfl rfl ?_ | refine RunL.evV rfl rfl rfl (OpV.loadN Tryz.tOk rfl rfl rfl rfl (hrd.up X)) ?_ | refine RunL.evV rfl rfl rfl (OpV.indexS Tryz.tOk _ rfl rfl rfl rfl (by omega)) ?_ | refine ZzT rfl rfl ?_ | refine ZzQ ?_ | refine ZzR ?_ | refine ZzN ?_ | refine ZzB ?_ | refine ZzK ?_)
   refine RunL.alloc Tryz.tOk rfl rfl rfl fun B9 wa_ aa_ => ?_
   have gB9 := aa_.ge X
   refine RunL.storeW (vs := d.cells) Tryz.tOk rfl rfl rfl rfl rfl aa_.at_ rfl rfl fun w9_ tb_ => ?_
   have Xa_ : Ext _ w9_ := aa_.ext.write tb_.ext (by intro i_ hi_ hlt_; have := aa_.eq; omega)
   have Z9 : Blk w9_ B9 (d.cells) 38 := tb_.at_
   replace hM := hM.up Xa_
   replace hG := hG.up Xa_
   replace X := X.trans Xa_
   clear Xa_ aa_ tb_
   repeat' (first | refine ZzA ?_ | refine RunL.ev Tryz.tOk rfl rfl rfl ?_ | refine RunL.evV rfl rfl rfl (OpV.loadN Tryz.tOk rfl rfl rfl rfl (Blk.row Z9)) ?_ | refine ZzQ ?_ | refine ZzR ?_ | refine ZzN ?_)
   refine RunL.call rfl rfl rfl (cR d _ hwd X) ?_
   rintro _ _ ⟨rfl, Xa_⟩
   replace hM := hM.up Xa_
   replace hG := hG.up Xa_
   replace Z9 := Z9.up Xa_
   replace X := X.trans Xa_
   clear Xa_
   cases hf : fineD ks d.d with
   | false =>
    rw [hf] at hstep
    repeat' (first | with_reducible refine ZzP rfl ?_ | with_reducible refine ZzG rfl ?_ | (with_reducible refine RunLN.chk ?_; refine RunLN.int (by (first | (refine wr_i64 ?_ ?_; omega; omega) | rfl)) ?_) | refine ZzA ?_ | refine RunL.ev Tryz.tOk rfl rfl rfl ?_ | refine ZzT rfl rfl ?_ | refine ZzQ ?_ | refine ZzR ?_ | refine ZzN ?_ | refine RunE.exit rfl ?_)
    exact RunE.weaken (by repeat (first | exact Sub.nil _ | refine Sub.cons rfl ?_)) (next _ m X hM (by rw [hstep]; exact hG) hN (by rw [hstep]; exact hC))
   | true =>
   repeat' (first | with_reducible refine ZzP rfl ?_ | with_reducible refine ZzG rfl ?_ | (with_reducible refine RunLN.chk ?_; refine RunLN.int (by (rfl)) ?_) | refine ZzA ?_ | refine RunL.ev Tryz.tOk rfl rfl rfl ?_ | refine RunL.evV rfl rfl rfl (OpV.load1 Tryz.tOk rfl rfl rfl (Blk.cell Z9 rfl)) ?_ | refine ZzF rfl rfl ?_ | refine ZzQ ?_ | refine ZzR ?_ | refine ZzN ?_ | refine ZzK ?_)
   refine RunL.alloc Tryz.tOk rfl rfl rfl fun B12 wa_ aa_ => ?_
   have gB12 := aa_.ge X
   refine RunL.storeW (vs := plC (d.d.person, d.d.no)) Tryz.tOk rfl rfl rfl rfl rfl aa_.at_ rfl rfl fun w12_ tb_ => ?_
   have Xa_ : Ext _ w12_ := aa_.ext.write tb_.ext (by intro i_ hi_ hlt_; have := aa_.eq; omega)
   have Z12 : Blk w12_ B12 (plC (d.d.person, d.d.no)) 71 := tb_.at_
   have n9_12 : B9 ≠ B12 := by have := Z9.lt; have := aa_.eq; omega
   have n12_9 : B12 ≠ B9 := Ne.symm n9_12
   replace hM := hM.up Xa_
   replace hG := hG.up Xa_
   replace Z9 := Z9.up Xa_
   replace X := X.trans Xa_
   clear Xa_ aa_ tb_
   repeat' (first | refine ZzA ?_ | refine RunL.ev Tryz.tOk rfl rfl rfl ?_ | refine RunL.evV rfl rfl rfl (OpV.loadN Tryz.tOk rfl rfl rfl rfl (Blk.row Z12)) ?_ | refine ZzQ ?_ | refine ZzR ?_ | refine ZzN ?_)
   refine RunL.evV rfl rfl rfl (OpV.lookup (kv := plV) (good := fun _ => True) (k := (d.d.person, d.d.no)) (z := nilV) Tryz.underlying65 plKey (by kernel_rfl) rfl rfl trivial hM) ?_
   have hO := hG.own (d.d.person, d.d.no)
   have hgl := grp_len out (d.d.person, d.d.no)
   repeat' (first | refine ZzA ?_ | refine RunL.ev Tryz.tOk rfl rfl rfl ?_)
   refine RunL.call rfl rfl rfl (drcontainsFunc_ok (grpD out (d.d.person, d.d.no)) _ _ (fun y => sameF y.d d.d) _ (isSl_own hO) (by omega) (fun w' y X' hy => ?_)) ?_
   ·have hwy := hd y (hos y (grp_sub hy))
    exact RetsX.v (fi := []) (args := [.agg y.cells.toArray]) (ca := [.pointer (some ⟨B9, 0, none⟩)]) (sameP_ok y d B9 w' (hwy.2.2.2.up (X.trans X')) (hwd.2.2.2.up (X.trans X')) hwy.2.1 hwd.2.1 (Z9.up X'))
   rintro _ w5 ⟨rfl, Xa_⟩
   replace hM := hM.up Xa_
   replace hG := hG.up Xa_
   replace Z9 := Z9.up Xa_
   replace Z12 := Z12.up Xa_
   replace X := X.trans Xa_
   clear Xa_ hO
   cases ht : ((grpD out (d.d.person, d.d.no)).any fun y => sameF y.d d.d) with
   | true =>
    rw [hf, ht] at hstep
    repeat' (first | with_reducible refine ZzG rfl ?_ | (with_reducible refine RunLN.chk ?_; refine RunLN.int (by (first | (refine wr_i64 ?_ ?_; omega; omega) | rfl)) ?_) | refine RunL.ev Tryz.tOk rfl rfl rfl ?_ | refine ZzF rfl rfl ?_ | refine ZzR ?_ | refine ZzN ?_ | refine ZzI ?_ | refine ZzK ?_)
    exact RunE.weaken (by repeat (first | exact Sub.nil _ | refine Sub.cons rfl ?_)) (next _ m X hM (by rw [hstep]; exact hG) hN (by rw [hstep]; exact hC))
   | false =>
   rw [hf, ht] at hstep
   replace hstep : stepL Dr.d ks out d = out ++ [d] := hstep
   rw [hstep] at next
   repeat' (first | with_reducible refine ZzP rfl ?_ | refine ZzA ?_ | refine RunL.ev Tryz.tOk rfl rfl rfl ?_ | refine RunL.evV rfl rfl rfl (OpV.loadN Tryz.tOk rfl rfl rfl rfl (Blk.row Z12)) ?_ | refine RunL.evV rfl rfl rfl (OpV.loadN Tryz.tOk rfl rfl rfl rfl (Blk.row Z9)) ?_ | refine ZzT rfl rfl ?_ | refine ZzR ?_ | refine ZzN ?_)
   refine RunL.ex rfl rfl rfl (OpE.buildN encR Tryz.tOk [d] rfl rfl rfl rfl rfl rfl) ?_
   rintro _ w6 ⟨⟨B15, rfl, l15⟩, hx1, Xa_⟩
   have g15 : w.heap.size ≤ B15 := Nat.le_trans X.size l15
   have l4 := hM.lt
   have n15 : B15 ≠ R := by omega
   replace hM := hM.up Xa_
   replace hG := hG.up Xa_
   replace X := X.trans Xa_
   clear Xa_ Z9 Z12
   skip
   refine RunL.ex rfl rfl rfl (OpE.mapEntry (kv := plV) (good := fun _ => True) (k := (d.d.person, d.d.no)) (z := nilV) Tryz.underlying65 plKey (by kernel_rfl) rfl rfl trivial hM) ?_
   rintro _ w7 ⟨st, rfl, hEn, e7, s7⟩
   have hRc : ∀ (u : World) cs, u.heap[R]? = some (.cells cs 38 (0, 0)) → ¬ MapL u R m := fun u cs h ⟨es, c, h', _⟩ => by rw [h] at h'; cases h'
   have hG7 : GrpL w7 w.heap.size m out := hG.ext e7 (fun k cs _ hk e => by subst e; exact hRc _ _ hk hM)
   have hx2 : LDr w7 (.slice (some ⟨B15, 0, none⟩) 1 1) [d] := isL_ext hx1 e7 (fun _ k hk e => by simp [Value.ownBlock] at hk; omega)
   have X7 : Ext w w7 := X.write e7 (by intro k hk _; omega)
   have hs7 : w.heap.size ≤ w7.heap.size := X7.size
   have hO := hG7.own (d.d.person, d.d.no)
   have hon := fun k (hk : ((getM (d.d.person, d.d.no) m).getD nilV).ownBlock = some k) => hG7.blk (d.d.person, d.d.no) hk
   have hoR : ¬ ((getM (d.d.person, d.d.no) m).getD nilV).ownBlock = some R := fun h => by
    obtain ⟨-, -, cs, hc⟩ := hon _ h
    obtain ⟨es, c, i, h', -⟩ := hEn
    rw [hc] at h'; cases h'
   clear hM hG hx1 X e7 hRc
   repeat' (first | refine ZzA ?_ | refine RunL.ev Tryz.tOk rfl rfl rfl ?_)
   refine RunL.ex rfl rfl rfl (OpE.append' Tryz.tOk rfl rfl rfl rfl rfl rfl hO hx2 (flat_plain encR [d]) (by show _ * 120 ≤ _; simp only [List.length_singleton]; omega) (by simp only [List.length_singleton]; omega) hs7) ?_
   rintro u' w8 ⟨O8, E8, hown⟩
   have hG8 := hG7.snoc (x0 := (d.d.person, d.d.no)) (a := d) (g' := grpD (out ++ [d])) E8 (by rw [← flat_one (enc := Dr.cells)]; exact O8) hown (grp_snoc out d) (fun k hk => grp_other out d k hk)
   have hEn8 := hEn.ext E8 hoR
   have X8 : Ext w w8 := X7.write E8 (by intro k hk hlt; have := (hon _ hk).1; omega)
   clear hEn X7 hG7 hO hx2 O8 hown
   repeat' (first | (with_reducible refine RunLN.chk ?_; refine RunLN.int (by (rfl)) ?_) | refine RunL.ev Tryz.tOk rfl rfl rfl ?_)
   refine RunL.exN rfl rfl (OpE.entryStore rfl rfl rfl hEn8) ?_
   rintro _ w9 ⟨hM9, e9, s9⟩
   have hG9 : GrpL w9 w.heap.size _ (out ++ [d]) := hG8.ext e9 (fun k cs _ hk e => by
    subst e
    obtain ⟨es, c, i, h', -⟩ := hEn8
    rw [hk] at h'; cases h')
   have X9 : Ext w w9 := X8.write e9 (by intro k hk hlt; omega)
   clear hEn8 X8 hG8 e9
   repeat' (first | (with_reducible refine RunLN.chk ?_; refine RunLN.int (by (first | (refine wr_i64 ?_ ?_; omega; omega) | rfl)) ?_) | refine RunL.ev Tryz.tOk rfl rfl rfl ?_ | refine ZzR ?_ | refine ZzN ?_ | refine ZzI ?_)
   exact RunE.weaken (by repeat (first | exact Sub.nil _ | refine Sub.cons rfl ?_)) (next _ _ X9 hM9 hG9 (setM_nodup hN) (by have := setM_len (d.d.person, d.d.no) u' m; rw [List.length_append, List.length_singleton]; omega))
  ·obtain rfl : j = xl.length := by omega
   rw [List.take_length, ← hall] at hG hC
   clear again2
   repeat' (first | (with_reducible refine RunLN.decF ?_ ?_; focus omega) | (with_reducible refine RunLN.chk ?_; refine RunLN.int (by (first | (refine wr_i64 ?_ ?_; omega; omega) | rfl)) ?_) | refine RunL.ev Tryz.tOk rfl rfl rfl ?_ | refine ZzF rfl rfl ?_ | refine ZzQ ?_ | refine ZzR ?_ | refine ZzN ?_ | refine ZzI ?_ | refine RunE.exit rfl ?_)
   exact RunE.weaken (by repeat (first | exact Sub.nil _ | refine Sub.cons rfl ?_)) (again (i + 1, m) _ (by simp only; omega) ⟨by simp only; omega, X, hM, hG, hN, hC⟩)
 ·obtain rfl : i = ls.length := by omega
  rw [List.take_length] at hG hC
  clear again
  repeat' (first | (with_reducible refine RunLN.decF ?_ ?_; focus omega) | refine ZzA ?_ | refine RunL.ev Tryz.tOk rfl rfl rfl ?_ | refine ZzF rfl rfl ?_ | refine ZzQ ?_ | refine ZzR ?_ | refine ZzN ?_ | refine RunE.exit rfl ?_)
  exact RunE.retFn Tryz.func29 (.tmp rfl .nil) ⟨⟨R, m, rfl, by omega, hM, hG, hN, hC⟩, X⟩
end Go.Sg
end
section
/- Merge: who has forked. -/
set_option maxRecDepth 4000
namespace Go.Mer
open Go.Rn Go.Rec Go.Dee Go.RowKit
def forkTo (out : List Dr) (n : Nat) : List (Nat × Nat) := (List.range n).filterMap fun (p : Nat) => (forkL Dr.d out (p : Int)).map fun q => (p, q)
def forkX (out : List Dr) : List (List Value) := (forkTo out 64).map fun x => [.int .i64 (x.1 : Int), .int .i64 (x.2 : Int)]
theorem forkTo_succ (out : List Dr) (n : Nat) : forkTo out (n + 1) = forkTo out n ++ ((forkL Dr.d out (n : Int)).map fun q => (n, q)).toList := by
 unfold forkTo
 rw [List.range_succ, List.filterMap_append]
 cases h : forkL Dr.d out (n : Int) <;> simp [h]
theorem forkTo_le (out : List Dr) (n : Nat) : ∀ k, ∃ t, forkTo out (n + k) = forkTo out n ++ t
 | 0 => ⟨[], by simp⟩
 | k + 1 => by
  obtain ⟨t, h⟩ := forkTo_le out n k
  exact ⟨_, by rw [← Nat.add_assoc, forkTo_succ, h, List.append_assoc]⟩
theorem forkTo_get {out : List Dr} {p q : Nat} (hp : p < 64) (h : forkL Dr.d out (p : Int) = some q) : (forkTo out 64)[(forkTo out p).length]? = some (p, q) := by
 obtain ⟨t, ht⟩ := forkTo_le out (p + 1) (64 - (p + 1))
 have e := forkTo_succ out p
 rw [h] at e
 rw [show p + 1 + (64 - (p + 1)) = 64 by omega, e] at ht
 rw [ht, List.append_assoc, List.getElem?_append_right (Nat.le_refl _)]
 simp
theorem forkL_of {out : List Dr} {p : Int} {n : Nat} (hn : n < 4096) (h2 : ¬ (grpD out (p, (n : Int))).length < 2) (h3 : ∀ m : Nat, m < n → (grpD out (p, (m : Int))).length < 2) : forkL Dr.d out p = some n := by
 rw [forkL_map]
 refine forkD_of hn ?_ fun m hm => ?_
 ·rw [← atL_length]; exact Nat.le_of_not_lt h2
 ·rw [← atL_length]; exact h3 m hm
theorem forkL_no {out : List Dr} {p : Int} (h3 : ∀ m : Nat, m < 4096 → (grpD out (p, (m : Int))).length < 2) : forkL Dr.d out p = none := by
 rw [forkL_map]
 cases h : forkL id (out.map Dr.d) p with
 | none => rfl
 | some n =>
  obtain ⟨h1, h2, -⟩ := forkD_some h
  rw [← atL_length] at h2
  have := h3 n h1
  exact absurd h2 (Nat.not_le_of_lt this)
end Go.Mer
namespace Go.Sg
open Go.Rn Go.Proofs Go.Dee Go.Mer Go.Rec Go.RowKit Go.Sha Go.Cod Go.NT
attribute [local irreducible] Go.Rn.RetsX Go.Rn.RunLN Go.Rn.AsyN Go.Rn.RunL Go.Rn.RunE Go.Rn.Asy Go.Rn.OpV Go.Rn.OpE Go.Rn.ExecE
abbrev forkV (b : Nat) : Value := .func (.func 62) #[] #[.pointer (some ⟨b, 0, none⟩)]
set_option maxHeartbeats 4000000 in
theorem forked_gives (out : List Dr) (m : List ((Int × Int) × Value)) (R b base : Nat) (w0 : World) (hM : MapL w0 R m) (hG : GrpL w0 base m out) (Y : Blk w0 b [.map (some R)] 65) :
  Gives Tryz.prog (forkV b) (forkX out) w0 (fun k => k = b ∨ k = R) := by
 intro S J y w hS h0 hJX hJup hy
 refine RetsX.v (fi := []) (args := [y]) (ca := [.pointer (some ⟨b, 0, none⟩)]) ?_
 change RetsX Tryz.prog 62 [y, .pointer (some ⟨b, 0, none⟩)] _ _ _
 have hlen : (forkX out).length = (forkTo out 64).length := by simp [forkX]
 rw [hlen]
 refine RetsX.of (nt := 25) Tryz.func62 (by kernel_rfl) rfl rfl (by simp) (by simp only [argEnv]; rfl) ?_
 repeat' (first | (with_reducible refine RunLN.chk ?_; refine RunLN.int (by (rfl)) ?_) | refine RunL.ev Tryz.tOk rfl rfl rfl ?_ | refine ZzQ ?_ | refine ZzR ?_ | refine ZzN ?_ | refine ZzB ?_)
 refine RunE.loop (ι := Nat) (fun p => [(0, y), (1, .pointer (some ⟨b, 0, none⟩)), (5, .int .i64 (p : Int))])
  (fun p w' => p ≤ 64 ∧ J (forkTo out p).length w') (fun p => 64 - p) 0 (by repeat (first | exact Sub.nil _ | refine Sub.cons rfl ?_)) ⟨Nat.zero_le _, h0⟩ ?_
 clear h0
 rintro p w3 ⟨hp, hJ⟩ again
 by_cases hlt : p < 64
 ·have hE := hJX _ _ hJ
  have U := Y.ext hE (hS _ (.inl rfl))
  have UM := hM.ext hE (hS _ (.inr rfl))
  have hsucc := forkTo_succ out p
  repeat' (first | (with_reducible refine RunLN.decT ?_ ?_; focus omega) | (with_reducible refine RunLN.chk ?_; refine RunLN.int (by (rfl)) ?_) | refine RunL.ev Tryz.tOk rfl rfl rfl ?_ | refine ZzT rfl rfl ?_ | refine ZzQ ?_ | refine ZzR ?_ | refine ZzN ?_ | refine ZzB ?_ | refine ZzK ?_)
  refine RunE.loop (ι := Nat) (fun q => [(0, y), (1, .pointer (some ⟨b, 0, none⟩)), (3, .int .i64 (p : Int)), (5, .int .i64 (p : Int)), (8, .int .i64 (q : Int))])
   (fun q w' => q ≤ 4096 ∧ (∀ r : Nat, r < q → (grpD out ((p : Int), (r : Int))).length < 2) ∧ w3 = w') (fun q => 4096 - q) 0 (by repeat (first | exact Sub.nil _ | refine Sub.cons rfl ?_)) ⟨Nat.zero_le _, fun r hr => absurd hr (Nat.not_lt_zero r), rfl⟩ ?_
  rintro q _ ⟨hq, hno, rfl⟩ again2
  by_cases hql : q < 4096
  ·(repeat (first | refine ZzQ ?_ | refine ZzR ?_))
   refine RunL.ev Tryz.tOk rfl rfl rfl ?_
   refine RunLN.decT (by omega) ?_
   repeat' (first | (with_reducible refine RunLN.chk ?_; refine RunLN.int (by (rfl)) ?_) | refine ZzA ?_ | refine RunL.ev Tryz.tOk rfl rfl rfl ?_ | refine RunL.evV rfl rfl rfl (OpV.load1 Tryz.tOk rfl rfl rfl (Blk.cell U rfl)) ?_ | refine ZzT rfl rfl ?_ | refine ZzQ ?_ | refine ZzR ?_ | refine ZzN ?_ | refine ZzB ?_ | refine ZzK ?_)
   refine RunL.evV rfl rfl rfl (OpV.lookup (kv := plV) (good := fun _ => True) (k := ((p : Int), (q : Int))) (z := nilV) Tryz.underlying65 plKey (by kernel_rfl) rfl rfl trivial UM) ?_
   have hL := isSl_own (hG.own ((p : Int), (q : Int)))
   by_cases h2 : (grpD out ((p : Int), (q : Int))).length < 2
   ·clear again
    repeat' (first | (with_reducible refine RunLN.decT ?_ ?_; focus omega) | (with_reducible refine RunLN.chk ?_; refine RunLN.int (by (first | (refine wr_i64 ?_ ?_; omega; omega) | rfl)) ?_) | refine ZzA ?_ | refine RunL.ev Tryz.tOk rfl rfl rfl ?_ | refine RunL.evV rfl rfl rfl (OpV.lenSl Tryz.tOk rfl rfl hL) ?_ | refine ZzT rfl rfl ?_ | refine ZzR ?_ | refine ZzN ?_ | refine RunE.exit rfl ?_)
    exact RunE.weaken (by repeat (first | exact Sub.nil _ | refine Sub.cons rfl ?_)) (again2 (q + 1) _ (by omega) ⟨by omega, fun r hr => by
     rcases Nat.lt_or_ge r q with h | h
     ·exact hno r h
     ·obtain rfl : r = q := by omega
      exact h2, rfl⟩)
   ·have hf := forkL_of hql h2 hno
    have hget := forkTo_get hlt hf
    clear again2
    rw [hf] at hsucc
    repeat' (first | (with_reducible refine RunLN.decF ?_ ?_; focus omega) | (with_reducible refine RunLN.chk ?_; refine RunLN.int (by (rfl)) ?_) | refine ZzA ?_ | refine RunL.ev Tryz.tOk rfl rfl rfl ?_ | refine RunL.evV rfl rfl rfl (OpV.lenSl Tryz.tOk rfl rfl hL) ?_ | refine ZzF rfl rfl ?_ | refine ZzQ ?_ | refine ZzR ?_ | refine ZzN ?_ | refine ZzK ?_)
    refine RunL.ex rfl rfl rfl (OpE.callV rfl rfl (hy (forkTo out p).length [.int .i64 (p : Int), .int .i64 (q : Int)] _ (by unfold forkX; rw [List.getElem?_map, hget]; rfl) hJ)) ?_
    rintro _ w5 ⟨rfl, hJ5⟩
    repeat' (first | with_reducible refine ZzG rfl ?_ | (with_reducible refine RunLN.chk ?_; refine RunLN.int (by (first | (refine wr_i64 ?_ ?_; omega; omega) | rfl)) ?_) | refine RunL.ev Tryz.tOk rfl rfl rfl ?_ | refine ZzF rfl rfl ?_ | refine ZzR ?_ | refine ZzN ?_ | refine ZzI ?_ | refine ZzK ?_ | refine RunE.exit rfl ?_)
    exact RunE.weaken (by repeat (first | exact Sub.nil _ | refine Sub.cons rfl ?_)) (again (p + 1) _ (by omega) ⟨by omega, by rw [hsucc, List.length_append]; exact hJ5⟩)
  ·obtain rfl : q = 4096 := by omega
   have hf := forkL_no hno
   rw [hf] at hsucc
   clear again2
   (repeat (first | refine ZzQ ?_ | refine ZzR ?_))
   refine RunL.ev Tryz.tOk rfl rfl rfl ?_
   refine RunLN.decF (by omega) ?_
   repeat' (first | (with_reducible refine RunLN.chk ?_; refine RunLN.int (by (first | (refine wr_i64 ?_ ?_; omega; omega) | rfl)) ?_) | refine RunL.ev Tryz.tOk rfl rfl rfl ?_ | refine ZzF rfl rfl ?_ | refine ZzQ ?_ | refine ZzR ?_ | refine ZzN ?_ | refine ZzI ?_ | refine RunE.exit rfl ?_)
   exact RunE.weaken (by repeat (first | exact Sub.nil _ | refine Sub.cons rfl ?_)) (again (p + 1) _ (by omega) ⟨by omega, by rw [hsucc]; simpa using hJ⟩)
 ·obtain rfl : p = 64 := by omega
  clear again
  repeat' (first | with_reducible refine ZzG rfl ?_ | refine RunL.ev Tryz.tOk rfl rfl rfl ?_ | refine ZzF rfl rfl ?_ | refine ZzQ ?_ | refine ZzR ?_ | refine ZzN ?_ | refine RunE.exit rfl ?_)
  exact RunE.fallFn Tryz.func62 .nil hJ
theorem mforked_ok (R : Nat) (w : World) : Rets Tryz.prog 30 [.map (some R)] w fun r w' => (∃ b, r = forkV b ∧ Blk w' b [.map (some R)] 65) ∧ Ext w w' := by
 refine RetsX.of (nt := 4) Tryz.func30 (by kernel_rfl) rfl rfl (by simp) (by simp only [argEnv]; rfl) ?_
 have X := ExtB.refl (fun _ => False) w
 repeat' (first | refine ZzQ ?_ | refine ZzR ?_)
 refine RunL.box rfl rfl rfl fun B1 w1_ a_ => ?_
 have Z1 : Blk w1_ B1 ([.map (some R)]) 65 := a_.at_
 have gB1 := a_.ge X
 replace X := X.trans a_.ext
 clear a_
 repeat' (first | refine ZzA ?_ | refine RunL.ev Tryz.tOk rfl rfl rfl ?_ | refine ZzQ ?_ | refine ZzR ?_ | refine ZzN ?_)
 exact RunE.retFn Tryz.func30 (.tmp rfl .nil) ⟨⟨B1, rfl, Z1⟩, X⟩
end Go.Sg
end
section
/- Lists sorted by number; the last of the greatest: plain. -/
namespace Go.Best
section
variable {α : Type} (no at_ : α → Int)
def Srt (l : List α) : Prop := l.Pairwise fun a b => no a < no b
def good (rt : α → Bool) : Int → List α → Bool
 | _, [] => true
 | last, x :: r => rt x && decide (last < no x) && good rt (no x) r
def chk (rt : α → Bool) (lim : Nat) (code : Int) (l : List α) : Int := if lim < l.length then 2 else if good no rt (-1) l then 0 else code
variable {no at_}
def cmpI (a b : Int) : Int := if a < b then -1 else if b < a then 1 else 0
theorem cmpI_neg {a b : Int} : cmpI a b < 0 ↔ a < b := by unfold cmpI; split <;> (try split) <;> omega
variable (no at_)
variable {no at_}
end
end Go.Best
end
section
/- cmp.Compare, cmp.Or at int. -/
set_option maxRecDepth 4000
namespace Go.Sg
open Go.Rn Go.Proofs Go.Rec Go.Best
attribute [local irreducible] Go.Rn.RunLN Go.Rn.AsyN Go.Rn.RunL Go.Rn.RunE Go.Rn.Asy Go.Rn.OpV Go.Rn.OpE Go.Rn.ExecE

theorem isNaN_ok (a : Int) (w : World) : Rets Tryz.prog 63 [.int .i64 a] w fun v w' => v = .bool false ∧ w = w' := by
 refine RetsX.of (nt := 6) Tryz.func63 (by kernel_rfl) rfl rfl (by simp) (by simp only [argEnv]; rfl) ?_
 repeat' (first | with_reducible refine ZzG rfl ?_ | (with_reducible refine RunLN.neF ?_ ?_; focus omega) | refine RunLN.int (by (rfl)) ?_ | refine RunL.ev Tryz.tOk rfl rfl rfl ?_ | refine ZzQ ?_ | refine ZzR ?_ | refine ZzN ?_)
 exact RunE.retFn Tryz.func63 (.tmp rfl .nil) ⟨rfl, rfl⟩
theorem compare_ok (a b : Int) (w : World) : Rets Tryz.prog 33 [.int .i64 a, .int .i64 b] w fun v w' => v = .int .i64 (cmpI a b) ∧ w = w' := by
 refine RetsX.of (nt := 20) Tryz.func33 (by kernel_rfl) rfl rfl (by simp) (by simp only [argEnv]; rfl) ?_
 repeat' (first | with_reducible refine ZzG rfl ?_ | refine RunLN.int (by (rfl)) ?_ | (refine RunLN.boolC (fun h_ => ?_) (fun h_ => ?_) <;> (try simp only [decide_eq_true_eq, decide_eq_false_iff_not, beq_iff_eq, bne_iff_ne, ne_eq, Bool.not_eq_true, Bool.not_eq_false, beq_eq_false_iff_ne, bne_eq_false_iff_eq, Bool.not_eq_eq_eq_not, Bool.not_true, Bool.not_false, Bool.not_not, Int.not_lt, Int.not_le, gt_iff_lt, ge_iff_le, Decidable.not_not] at h_)) | refine RunL.ev Tryz.tOk rfl rfl rfl ?_ | refine RunL.callN rfl rfl rfl (isNaN_ok _ _) ?_ | refine ZzT rfl rfl ?_ | refine ZzF rfl rfl ?_ | refine ZzQ ?_ | refine ZzR ?_ | refine ZzN ?_ | refine ZzK ?_)
 all_goals
  refine RunE.retFn Tryz.func33 (.tmp rfl .nil) ⟨?_, rfl⟩
  simp only [oneOr]
  congr 1
  unfold cmpI
  split <;> (try split) <;> omega
end Go.Sg
end
section
/- cmp.Or at int. -/
set_option maxRecDepth 4000
namespace Go.Sg
open Go.Rn Go.Proofs Go.Rec Go.Best
attribute [local irreducible] Go.Rn.RunLN Go.Rn.AsyN Go.Rn.RunL Go.Rn.RunE Go.Rn.Asy Go.Rn.OpV Go.Rn.OpE Go.Rn.ExecE

end Go.Sg
end
section
/- The library's sort, in this calculus. -/
set_option maxRecDepth 4000
namespace Go.Rn
open Go.RowKit Go.Sort Go.Proofs Go.Rec
theorem ext_grow {w w' : World} (h : Ext w w') : ∃ q os, w' = grow (w.drewN q) os := by
 refine ⟨w'.drawn - w.drawn, w'.heap.extract w.heap.size, ?_⟩
 obtain ⟨hp, tp, dr, os, ou⟩ := w
 obtain ⟨hp', tp', dr', os', ou'⟩ := w'
 obtain ⟨h1, h2, h3, h4, h5, h6⟩ := h
 simp only at h1 h2 h3 h4 h5 h6
 subst h2; subst h3; subst h4
 unfold grow World.drewN
 simp only
 congr 1
 ·apply Array.ext_getElem?
  intro k
  rcases Nat.lt_or_ge k hp.size with hk | hk
  ·rw [h6 k hk id, Array.getElem?_append_left hk]
  ·rw [Array.getElem?_append_right hk, Array.getElem?_extract]
   split
   ·congr 1; omega
   ·rw [Array.getElem?_eq_none]; omega
 ·omega
theorem get_grow {w : World} {os : Array Obj} {k : Nat} (hk : k < w.heap.size) : (grow w os).heap[k]? = w.heap[k]? := by
 unfold grow; simp only; rw [Array.getElem?_append_left hk]
section
variable {α : Type} [Inhabited α] {enc : α → List Value} {k : Nat}
theorem ext_sortWorld {w : World} {blk off m : Nat} {d : Array α} {os : Array Obj} : ExtB (· = blk) w (sortWorldK enc k w blk off m d os) := by
 unfold sortWorldK putRowK putRow mapBlock
 refine ⟨?_, rfl, rfl, rfl, ?_, fun i hi hn => ?_⟩
 ·show w.drawn ≤ w.drawn + m; omega
 ·show w.heap.size ≤ (w.heap.modify _ _ ++ os).size
  simp
 ·rw [get_grow (by simpa [Sort.ahead] using hi)]
  simp only [Sort.ahead]
  rw [Array.getElem?_modify, if_neg (fun h => hn h.symm)]
theorem flatK_get (h : EncOk enc k) {d : Array α} {t : Nat} (ht : t < d.size * k) : (flat enc d.toList)[t]? = some (flatK enc k d)[t]! := by
 rw [get_flatK enc k d t ht]
 have hq : t / k < d.size := Nat.div_lt_of_lt_mul (by rw [Nat.mul_comm]; exact ht)
 have hm : t % k < k := Nat.mod_lt _ h.pos
 have hlen := h.len d[t / k]
 have hx : d.toList[t / k]? = some d[t / k] := by rw [Array.getElem?_toList, Array.getElem?_eq_getElem hq]
 have hdrop : d.toList.drop (t / k) = d[t / k] :: d.toList.drop (t / k + 1) := by
  rw [List.drop_eq_getElem_cons (by simpa using hq)]; simp
 have e := congrArg (·[t % k]?) (flat_drop h d.toList (t / k))
 simp only [List.getElem?_drop] at e
 rw [show t / k * k + t % k = t by rw [Nat.mul_comm]; exact Nat.div_add_mod t k, hdrop, flat_cons, List.getElem?_append_left (by omega)] at e
 rw [e, getElem!_pos d (t / k) hq, getElem!_pos _ (t % k) (by omega)]
 exact List.getElem?_eq_getElem _
theorem holds_of {w : World} {g n cap : Nat} {base : Nat} {e : TypeId} {d : Array α} (h : EncOk enc k) (hO : w.ownsRow base e k (.slice (some ⟨g, 0, none⟩) n cap) n (flat enc d.toList)) (hn : d.size = n) : HoldsK enc k w g 0 d := by
 intro j hj
 rw [size_flatK] at hj
 rcases hO.2 with ⟨h0, -⟩ | ⟨g', cap', cur, he, hbg, hg, hnc, hcm, hcs, htake⟩
 ·simp at h0
 ·simp at he
  obtain ⟨rfl, rfl⟩ := he
  have hget := flatK_get h hj
  rw [← htake, List.getElem?_take] at hget
  split at hget
  ·refine ⟨?_, ?_⟩
   ·unfold World.cell?
    rw [hg]
    simpa using hget
   ·unfold World.frozen?
    rw [hg]; simp
  ·simp at hget
theorem isL_holds {w : World} {g cap : Nat} {d : Array α} (h : EncOk enc k) (hH : HoldsK enc k w g 0 d) (hc : d.size ≤ cap) : IsL w enc k (.slice (some ⟨g, 0, none⟩) d.size cap) d.toList := by
 have hl := flat_length h d.toList
 have hr : Row w g 0 (flat enc d.toList) := fun i v hv => by
  have hi : i < d.size * k := by
   rcases Nat.lt_or_ge i (flat enc d.toList).length with h' | h'
   ·rw [hl] at h'; simpa using h'
   ·rw [List.getElem?_eq_none h'] at hv; simp at hv
  have := (hH i (by rw [size_flatK]; exact hi)).1
  rw [flatK_get h hi] at hv
  cases hv
  exact this
 have := IsSl.row (sz := k) (n := d.size) (cap := cap) hr (by rw [hl]; simp) hc
 simpa [IsL] using this
end
end Go.Rn
end
section
/- The library's sort, laid at this program. -/
set_option maxRecDepth 4000
namespace Go.Proofs
open Go.Shelf Go.RowKit Go.Lib Go.Sort
def Tryz.sortDd_ren : Go.Shelf.Ren := ⟨fun | 6 => 65 | 15 => 92 | 14 => 91 | 28 => 125 | 29 => 126 | 20 => 117 | 21 => 118 | 22 => 119 | 23 => 120 | 24 => 121 | 25 => 122 | 26 => 123 | 27 => 124 | 46 => 143 | 47 => 144 | 48 => 145 | 49 => 146 | 50 => 147 | 57 => 155 | n => n, fun | 22 => 26 | 24 => 38 | 25 => 74 | 3 => 3 | 39 => 131 | 0 => 0 | 53 => 140 | 55 => 145 | 4 => 4 | 46 => 159 | 45 => 158 | 50 => 52 | 5 => 5 | 9 => 9 | 66 => 179 | 70 => 183 | 76 => 192 | 77 => 193 | n => n, fun | n => n⟩
theorem Tryz.sortDd : Go.Proofs.SlLaysF0.n6 Tryz.prog Tryz.sortDd_ren where
 mixed := by kernel_rfl
 f6 := ⟨Tryz.f65.name, by kernel_rfl, Tryz.func65.trans (congrArg some (by kernel_rfl))⟩
 f14 := ⟨Tryz.f91.name, by kernel_rfl, Tryz.func91.trans (congrArg some (by kernel_rfl))⟩
 f15 := Tryz.func92.trans (congrArg some (by kernel_rfl))
 f20 := ⟨Tryz.f117.name, by kernel_rfl, Tryz.func117.trans (congrArg some (by kernel_rfl))⟩
 f21 := ⟨Tryz.f118.name, by kernel_rfl, Tryz.func118.trans (congrArg some (by kernel_rfl))⟩
 f22 := ⟨Tryz.f119.name, by kernel_rfl, Tryz.func119.trans (congrArg some (by kernel_rfl))⟩
 f23 := ⟨Tryz.f120.name, by kernel_rfl, Tryz.func120.trans (congrArg some (by kernel_rfl))⟩
 f24 := ⟨Tryz.f121.name, by kernel_rfl, Tryz.func121.trans (congrArg some (by kernel_rfl))⟩
 f25 := ⟨Tryz.f122.name, by kernel_rfl, Tryz.func122.trans (congrArg some (by kernel_rfl))⟩
 f26 := ⟨Tryz.f123.name, by kernel_rfl, Tryz.func123.trans (congrArg some (by kernel_rfl))⟩
 f27 := ⟨Tryz.f124.name, by kernel_rfl, Tryz.func124.trans (congrArg some (by kernel_rfl))⟩
 f28 := Tryz.func125.trans (congrArg some (by kernel_rfl))
 f29 := Tryz.func126.trans (congrArg some (by kernel_rfl))
 f46 := ⟨Tryz.f143.name, by kernel_rfl, Tryz.func143.trans (congrArg some (by kernel_rfl))⟩
 f47 := Tryz.func144.trans (congrArg some (by kernel_rfl))
 f48 := Tryz.func145.trans (congrArg some (by kernel_rfl))
 f49 := ⟨Tryz.f146.name, by kernel_rfl, Tryz.func146.trans (congrArg some (by kernel_rfl))⟩
 f50 := ⟨Tryz.f147.name, by kernel_rfl, Tryz.func147.trans (congrArg some (by kernel_rfl))⟩
 f57 := ⟨Tryz.f155.name, by kernel_rfl, Tryz.func155.trans (congrArg some (by kernel_rfl))⟩
 t0 := Tryz.underlying0
 a0 := Tryz.isAgg0
 z0 := Tryz.sizeOf0
 v0 := Tryz.zeroValue0
 t3 := Tryz.underlying3
 a3 := Tryz.isAgg3
 z3 := Tryz.sizeOf3
 v3 := Tryz.zeroValue3
 t4 := Tryz.underlying4
 a4 := Tryz.isAgg4
 z4 := Tryz.sizeOf4
 v4 := Tryz.zeroValue4
 t5 := Tryz.underlying5
 a5 := Tryz.isAgg5
 z5 := Tryz.sizeOf5
 v5 := Tryz.zeroValue5
 t9 := Tryz.underlying9
 a9 := Tryz.isAgg9
 z9 := Tryz.sizeOf9
 v9 := Tryz.zeroValue9
 t22 := Tryz.underlying26
 a22 := Tryz.isAgg26
 z22 := Tryz.sizeOf26
 v22 := Tryz.zeroValue26
 t25 := Tryz.underlying74
 a25 := Tryz.isAgg74
 z25 := Tryz.sizeOf74
 v25 := Tryz.zeroValue74
 t39 := Tryz.underlying131
 a39 := Tryz.isAgg131
 z39 := Tryz.sizeOf131
 v39 := Tryz.zeroValue131
 t45 := Tryz.underlying158
 a45 := Tryz.isAgg158
 z45 := Tryz.sizeOf158
 v45 := Tryz.zeroValue158
 t46 := Tryz.underlying159
 a46 := Tryz.isAgg159
 z46 := Tryz.sizeOf159
 v46 := Tryz.zeroValue159
 t50 := Tryz.underlying52
 a50 := Tryz.isAgg52
 z50 := Tryz.sizeOf52
 v50 := Tryz.zeroValue52
 t53 := Tryz.underlying140
 a53 := Tryz.isAgg140
 z53 := Tryz.sizeOf140
 v53 := Tryz.zeroValue140
 t55 := Tryz.underlying145
 a55 := Tryz.isAgg145
 z55 := Tryz.sizeOf145
 v55 := Tryz.zeroValue145
 t66 := Tryz.underlying179
 a66 := Tryz.isAgg179
 z66 := Tryz.sizeOf179
 v66 := Tryz.zeroValue179
 t70 := Tryz.underlying183
 a70 := Tryz.isAgg183
 z70 := Tryz.sizeOf183
 v70 := Tryz.zeroValue183
 t76 := Tryz.underlying192
 a76 := Tryz.isAgg192
 z76 := Tryz.sizeOf192
 v76 := Tryz.zeroValue192
 t77 := Tryz.underlying193
 a77 := Tryz.isAgg193
 z77 := Tryz.sizeOf193
 v77 := Tryz.zeroValue193
end Go.Proofs
end
section
/- Merge: deeds in order. -/
set_option maxRecDepth 4000
namespace Go.Mer
open Go.Rn Go.Rec Go.Dee Go.RowKit Go.Sort Go.Best Go.Proofs
instance : Inhabited Dr := ⟨zeroR⟩
def cmpD (a b : Deed) : Int := if cmpI a.at_ b.at_ = 0 then (if cmpI a.person b.person = 0 then cmpI a.no b.no else cmpI a.person b.person) else cmpI a.at_ b.at_
def cmpR (a b : Dr) : Int := cmpD a.d b.d
theorem lt_deed (x y : Dr) : ltOf cmpR x y = befD x.d y.d := by
 unfold ltOf cmpR cmpD
 rw [Bool.eq_iff_iff, decide_eq_true_eq, befD_iff]
 have e1 := @cmpI_neg x.d.at_ y.d.at_
 have e2 := @cmpI_neg x.d.person y.d.person
 have e3 := @cmpI_neg x.d.no y.d.no
 have z : ∀ a b : Int, cmpI a b = 0 ↔ a = b := fun a b => by
  unfold cmpI; split
  ·constructor <;> intro h <;> omega
  ·split
   ·constructor <;> intro h <;> omega
   ·constructor <;> intro h <;> omega
 split
 ·rename_i h
  rw [z] at h
  split
  ·rename_i h2
   rw [z] at h2
   rw [e3]; omega
  ·rename_i h2
   rw [z] at h2
   rw [e2]; omega
 ·rename_i h
  rw [z] at h
  rw [e1]; omega
theorem swo_deed : SWO (ltOf cmpR) where
 irrefl x := by rw [lt_deed]; exact befD_irrefl _
 trans x y z h1 h2 := by
  rw [lt_deed] at *
  exact befD_trans h1 h2
 ntrans x y z h1 h2 := by
  rw [lt_deed] at *
  cases h : befD x.d z.d with
  | false => rfl
  | true =>
   have n1 : ¬ befD x.d y.d = true := by rw [h1]; simp
   have n2 : ¬ befD y.d z.d = true := by rw [h2]; simp
   rw [befD_iff] at n1 n2 h
   omega
theorem sorted_deed {f : List Dr} {d' : Array Dr} (hp : PermIn 0 f.toArray.size f.toArray d') (hd : SortedIn (ltOf cmpR) 0 f.toArray.size d') : d'.toList.Perm f ∧ d'.toList.Pairwise fun a b => ¬ befD b.d a.d = true := by
 obtain ⟨h1, -, h3⟩ := hp
 have hperm : d'.toList.Perm f := by
  have e1 : d'.extract 0 f.toArray.size = d' := by rw [← h1, Array.extract_size]
  rw [e1] at h3
  simpa using h3
 refine ⟨hperm, ?_⟩
 rw [List.pairwise_iff_getElem]
 intro i j hi hj hij
 simp only [Array.length_toList] at hi hj
 have hsz : d'.size = f.length := by simpa using h1
 have h := hd i j (Nat.zero_le _) hij (by simpa [hsz] using hj)
 rw [lt_deed] at h
 simp only [Array.getElem_toList]
 rw [getElem!_pos d' i (by omega), getElem!_pos d' j (by omega)] at h
 rw [h]; simp
end Go.Mer
namespace Go.Sg
open Go.Rn Go.Proofs Go.Dee Go.Mer Go.Rec Go.RowKit Go.Sha Go.Cod Go.NT Go.Best Go.Sort
section
attribute [local irreducible] Go.Rn.RetsX Go.Rn.RunLN Go.Rn.AsyN Go.Rn.RunL Go.Rn.RunE Go.Rn.Asy Go.Rn.OpV Go.Rn.OpE Go.Rn.ExecE
theorem cmpOr3_ok (a b c : Int) (v : Value) (w : World) (hv : IsSl w 1 v 3 [.int .i64 a, .int .i64 b, .int .i64 c]) : Rets Tryz.prog 32 [v] w fun r w' => r = .int .i64 (if a = 0 then (if b = 0 then c else b) else a) ∧ w = w' := by
 obtain ⟨B, o, cap, rfl, hr, -, -⟩ := hv.held (by omega)
 refine RetsX.of (nt := 18) Tryz.func32 (by kernel_rfl) rfl rfl (by simp) (by simp only [argEnv]; rfl) ?_
 have X := ExtB.refl (fun _ => False) w
 repeat' (first | (with_reducible refine RunLN.chk ?_; refine RunLN.int (by (rfl)) ?_) | refine ZzA ?_ | refine RunL.ev Tryz.tOk rfl rfl rfl ?_ | refine ZzQ ?_ | refine ZzR ?_ | refine ZzN ?_ | refine ZzB ?_)
 refine RunE.unroll ?_
 by_cases ha : a = 0
 ·rw [if_pos ha]; subst ha
  repeat' (first | with_reducible refine ZzP rfl ?_ | with_reducible refine ZzG rfl ?_ | (with_reducible refine RunLN.chk ?_; refine RunLN.int (by (first | (refine wr_i64 ?_ ?_; omega; omega) | rfl)) ?_) | refine ZzA ?_ | refine RunL.ev Tryz.tOk rfl rfl rfl ?_ | refine RunL.evV rfl rfl rfl (OpV.indexS Tryz.tOk 0 rfl rfl rfl (by first | rfl | omega) (by omega)) ?_ | refine RunL.evV rfl rfl rfl (OpV.load1 Tryz.tOk rfl rfl rfl ((hr.up X) 0 _ rfl)) ?_ | refine ZzT rfl rfl ?_ | refine ZzF rfl rfl ?_ | refine ZzQ ?_ | refine ZzR ?_ | refine ZzN ?_ | refine ZzB ?_ | refine ZzI ?_ | refine ZzK ?_)
  refine RunE.again ?_
  by_cases hb : b = 0
  ·rw [if_pos hb]; subst hb
   repeat' (first | with_reducible refine ZzP rfl ?_ | with_reducible refine ZzG rfl ?_ | (with_reducible refine RunLN.chk ?_; refine RunLN.int (by (first | (refine wr_i64 ?_ ?_; omega; omega) | rfl)) ?_) | refine ZzA ?_ | refine RunL.ev Tryz.tOk rfl rfl rfl ?_ | refine RunL.evV rfl rfl rfl (OpV.indexS Tryz.tOk 1 rfl rfl rfl (by first | rfl | omega) (by omega)) ?_ | refine RunL.evV rfl rfl rfl ((OpV.load1 Tryz.tOk rfl rfl rfl (hr 1 _ rfl))) ?_ | refine ZzT rfl rfl ?_ | refine ZzF rfl rfl ?_ | refine ZzQ ?_ | refine ZzR ?_ | refine ZzN ?_ | refine ZzB ?_ | refine ZzI ?_ | refine ZzK ?_)
   refine RunE.again ?_
   by_cases hc : c = 0
   ·subst hc
    repeat' (first | with_reducible refine ZzP rfl ?_ | with_reducible refine ZzG rfl ?_ | (with_reducible refine RunLN.chk ?_; refine RunLN.int (by (first | (refine wr_i64 ?_ ?_; omega; omega) | rfl)) ?_) | refine ZzA ?_ | refine RunL.ev Tryz.tOk rfl rfl rfl ?_ | refine RunL.evV rfl rfl rfl (OpV.indexS Tryz.tOk 2 rfl rfl rfl (by first | rfl | omega) (by omega)) ?_ | refine RunL.evV rfl rfl rfl ((OpV.load1 Tryz.tOk rfl rfl rfl (hr 2 _ rfl))) ?_ | refine ZzT rfl rfl ?_ | refine ZzF rfl rfl ?_ | refine ZzQ ?_ | refine ZzR ?_ | refine ZzN ?_ | refine ZzB ?_ | refine ZzI ?_ | refine ZzK ?_)
    refine RunE.again ?_
    repeat' (first | with_reducible refine ZzG rfl ?_ | (with_reducible refine RunLN.chk ?_; refine RunLN.int (by (rfl)) ?_) | refine RunL.ev Tryz.tOk rfl rfl rfl ?_ | refine ZzF rfl rfl ?_ | refine ZzQ ?_ | refine ZzR ?_ | refine ZzN ?_ | refine RunE.exit rfl ?_)
    exact RunE.retFn Tryz.func32 (.tmp rfl .nil) ⟨rfl, rfl⟩
   ·repeat' (first | with_reducible refine ZzP rfl ?_ | (with_reducible refine RunLN.neT ?_ ?_; focus omega) | (with_reducible refine RunLN.chk ?_; refine RunLN.int (by (rfl)) ?_) | refine ZzA ?_ | refine RunL.ev Tryz.tOk rfl rfl rfl ?_ | refine RunL.evV rfl rfl rfl (OpV.indexS Tryz.tOk 2 rfl rfl rfl (by first | rfl | omega) (by omega)) ?_ | refine RunL.evV rfl rfl rfl ((OpV.load1 Tryz.tOk rfl rfl rfl (hr 2 _ rfl))) ?_ | refine ZzT rfl rfl ?_ | refine ZzQ ?_ | refine ZzR ?_ | refine ZzN ?_ | refine ZzB ?_ | refine ZzK ?_)
    exact RunE.retFn Tryz.func32 (.tmp rfl .nil) ⟨rfl, rfl⟩
  ·rw [if_neg hb]
   repeat' (first | with_reducible refine ZzP rfl ?_ | (with_reducible refine RunLN.neT ?_ ?_; focus omega) | (with_reducible refine RunLN.chk ?_; refine RunLN.int (by (rfl)) ?_) | refine ZzA ?_ | refine RunL.ev Tryz.tOk rfl rfl rfl ?_ | refine RunL.evV rfl rfl rfl (OpV.indexS Tryz.tOk 1 rfl rfl rfl (by first | rfl | omega) (by omega)) ?_ | refine RunL.evV rfl rfl rfl ((OpV.load1 Tryz.tOk rfl rfl rfl (hr 1 _ rfl))) ?_ | refine ZzT rfl rfl ?_ | refine ZzQ ?_ | refine ZzR ?_ | refine ZzN ?_ | refine ZzB ?_ | refine ZzK ?_)
   exact RunE.retFn Tryz.func32 (.tmp rfl .nil) ⟨rfl, rfl⟩
 ·rw [if_neg ha]
  repeat' (first | with_reducible refine ZzP rfl ?_ | (with_reducible refine RunLN.neT ?_ ?_; focus omega) | (with_reducible refine RunLN.chk ?_; refine RunLN.int (by (rfl)) ?_) | refine ZzA ?_ | refine RunL.ev Tryz.tOk rfl rfl rfl ?_ | refine RunL.evV rfl rfl rfl (OpV.indexS Tryz.tOk 0 rfl rfl rfl (by first | rfl | omega) (by omega)) ?_ | refine RunL.evV rfl rfl rfl (OpV.load1 Tryz.tOk rfl rfl rfl ((hr.up X) 0 _ rfl)) ?_ | refine ZzT rfl rfl ?_ | refine ZzQ ?_ | refine ZzR ?_ | refine ZzN ?_ | refine ZzB ?_ | refine ZzK ?_)
  exact RunE.retFn Tryz.func32 (.tmp rfl .nil) ⟨rfl, rfl⟩
theorem morder_ok (x y : Dr) (w : World) : Rets Tryz.prog 31 [.agg x.cells.toArray, .agg y.cells.toArray] w fun v w' => v = .int .i64 (cmpR x y) ∧ Ext w w' := by
 refine RetsX.of (nt := 22) Tryz.func31 (by kernel_rfl) rfl rfl (by simp) (by simp only [argEnv]; rfl) ?_
 have X := ExtB.refl (fun _ => False) w
 repeat' (first | refine ZzQ ?_ | refine ZzR ?_)
 refine RunL.box rfl rfl rfl fun B2 w2_ a_ => ?_
 have Z2 : Blk w2_ B2 (x.cells) 38 := a_.at_
 have gB2 := a_.ge X
 replace X := X.trans a_.ext
 clear a_
 skip
 refine RunL.box rfl rfl rfl fun B3 w3_ a_ => ?_
 have Z3 : Blk w3_ B3 (y.cells) 38 := a_.at_
 have gB3 := a_.ge X
 have n2_3 : B2 ≠ B3 := by have := Z2.lt; have := a_.eq; omega
 have n3_2 : B3 ≠ B2 := Ne.symm n2_3
 replace Z2 := Z2.up a_.ext
 replace X := X.trans a_.ext
 clear a_
 repeat' (first | (with_reducible refine RunLN.chk ?_; refine RunLN.int (by (rfl)) ?_) | refine RunL.ev Tryz.tOk rfl rfl rfl ?_ | refine ZzQ ?_ | refine ZzN ?_)
 refine RunE.draw (fun _ => False) mix ?_
 intro wd_ Xd_
 repeat' (first | (with_reducible refine AsyN.chk ?_; refine AsyN.int (by (rfl)) ?_) | refine AsyN.any ?_ | refine Asy.ev Tryz.tOk rfl rfl rfl ?_ | refine Asy.evV rfl rfl rfl rfl (fun _ X_ => OpV.load1 Tryz.tOk rfl rfl rfl (Blk.cell (Z2.up (Xd_.trans X_)) rfl)) ?_ | refine Asy.evV rfl rfl rfl rfl (fun _ X_ => OpV.load1 Tryz.tOk rfl rfl rfl (Blk.cell (Z3.up (Xd_.trans X_)) rfl)) ?_ | refine Asy.callN rfl rfl rfl (fun _ _ => (compare_ok _ _ _).mono (fun _ _ h => ⟨h.1, by rw [h.2]; exact ExtB.refl _ _⟩)) ?_)
 refine Asy.sat0 (fun u w' => IsSl w' 1 u 3 [.int .i64 (cmpI x.d.at_ y.d.at_), .int .i64 (cmpI x.d.person y.d.person), .int .i64 (cmpI x.d.no y.d.no)]) rfl rfl rfl rfl (fun u w' w'' _ e h => h.extE e) (fun w' _ => ?_) ?_
 ·refine OpE.mono (OpE.buildSl Tryz.tOk [.int .i64 (cmpI x.d.at_ y.d.at_), .int .i64 (cmpI x.d.person y.d.person), .int .i64 (cmpI x.d.no y.d.no)] rfl rfl rfl rfl rfl rfl (by simp [Value.cells])) ?_ fun _ _ h => h
  rintro _ w'' ⟨B, rfl, a⟩; exact ⟨a.ext, isSl_added (n := 3) (sz := 1) a rfl⟩
 refine Asy.val1 0 (v := .int .i64 (cmpR x y)) rfl rfl rfl rfl rfl rfl (fun w' u e hu => ?_) ?_
 ·refine OpE.mono (OpE.call rfl (cmpOr3_ok _ _ _ u w' hu)) ?_ fun _ _ h => h
  rintro _ _ ⟨rfl, rfl⟩; exact ⟨rfl, ExtB.refl _ _⟩
 repeat' (first | (with_reducible refine AsyN.chk ?_; refine AsyN.int (by (rfl)) ?_) | refine Asy.ev Tryz.tOk rfl rfl rfl ?_)
 refine Asy.tail (by kernel_rfl) ?_
 intro we_ Xe_
 simp only [satsAll]
 intro u hu
 repeat' (first | refine ZzN ?_)
 exact RunE.retFn Tryz.func31 (.tmp rfl .nil) ⟨rfl, X.trans (Xd_.trans Xe_)⟩
end
abbrev orderV : Value := .func (.func 31) #[] #[]
theorem ddSort_ok (f : List Dr) (v : Value) (base : Nat) (w : World) (hO : w.ownsRow base 38 39 v f.length (flat Dr.cells f)) (hl : f.length ≤ 100000) :
  Rets Tryz.prog 65 [v, orderV] w fun _ w' => (∃ s : List Dr, s.Perm f ∧ (s.Pairwise fun a b => ¬ befD b.d a.d = true) ∧ IsL w' Dr.cells 39 v s) ∧ ExtB (fun k => base ≤ k) w w' := by
 by_cases hn : f.length = 0
 ·obtain rfl := List.length_eq_zero_iff.1 hn
  obtain ⟨d, c, rfl⟩ := isSl_slice (isSl_own hO)
  have hc := AnyF.slices_SortFunc_none { Tryz.sortDd with } d c orderV w
  refine ⟨⟨_, Tryz.func65, by kernel_rfl, by kernel_rfl⟩, hc.mono ?_⟩
  rintro e w' ⟨rfl, rfl⟩
  exact ⟨⟨[], List.Perm.refl _, List.Pairwise.nil, isSl_own hO⟩, ExtB.refl _ _⟩
 ·have hsl := isSl_own hO
  rcases hO.2 with ⟨-, h0⟩ | ⟨g, cap, cur, rfl, hbg, hg, hnc, hcm, hcs, htake⟩
  ·exact absurd h0 hn
  have hgl : g < w.heap.size := lt_of_get hg
  have hH : HoldsK Dr.cells 39 w g 0 f.toArray := holds_of encR (base := base) (n := f.length) (cap := cap) (e := 38) hO (by simp)
  have hcmp : CmpLays Tryz.prog 31 #[] Dr.cells 39 cmpR g 0 f.toArray.size w := fun m os dk _ x y => by
   refine (morder_ok x y _).2.mono fun e w' h => ?_
   cases e with
   | returned v => obtain ⟨rfl, hx⟩ := h; exact ⟨rfl, ext_grow hx⟩
   | panicked ch => exact h.elim
   | outgrown => exact h.elim
  have eg : ∀ args w, (callFunc 31 args).run Tryz.prog w = .ok (.enter 31 args) w := fun args w => run_callFunc ⟨_, Tryz.func31, by kernel_rfl, by kernel_rfl⟩ args
  have hc := AnyQ.slices_SortFunc Tryz.sortDd 39 (fun w => ?_) (fun w => ?_) Dr.cells (fun _ => rfl) ?_ cmpR swo_deed 31 #[] g 0 cap f.toArray w eg hcmp hH hgl (by simp; omega)
  ·refine ⟨⟨_, Tryz.func65, by kernel_rfl, by kernel_rfl⟩, ?_⟩
   have hsz : f.toArray.size = f.length := by simp
   rw [hsz] at hc
   refine hc.mono ?_
   rintro e w' ⟨rfl, d', n, os, hp, hd, rfl⟩
   rw [← hsz] at hp hd
   obtain ⟨h1, h2⟩ := sorted_deed hp hd
   have hd' : d'.size = f.length := by have := hp.1; simpa using this
   refine ⟨⟨d'.toList, h1, h2, ?_⟩, ext_sortWorld.mono fun k _ h => by subst h; exact hbg⟩
   have := isL_holds (cap := cap) encR (holdsK_sortWorldK_c Dr.cells 39 w g 0 f.toArray d' n os hH hgl (by simp [hd'])) (by omega)
   rwa [hd'] at this
  ·obtain ⟨d, hd, ha⟩ := TI.und (Tryz.tOk.get 38 _ rfl)
   exact (Go.Rn.run_isAgg hd).trans (by rw [ha])
  ·obtain ⟨j, hj, hsz, -⟩ := TI.info (Tryz.tOk.get 38 _ rfl)
   exact (Go.Rn.run_sizeOf hj).trans (by rw [hsz])
  ·intro x v hv
   exact one_plain (List.all_eq_true.1 (encR.plain x) v hv)
section
attribute [local irreducible] Go.Rn.RetsX Go.Rn.RunLN Go.Rn.AsyN Go.Rn.RunL Go.Rn.RunE Go.Rn.Asy Go.Rn.OpV Go.Rn.OpE Go.Rn.ExecE
theorem ddGrow_ok (n : Nat) (w : World) (h : n ≤ 1000000) : Rets Tryz.prog 90 [.slice none 0 0, .int .i64 (n : Int)] w fun v w' => w'.ownsRow w.heap.size 38 39 v 0 [] ∧ Ext w w' := by
 refine RetsX.of (nt := 27) Tryz.func90 (by kernel_rfl) rfl rfl (by simp) (by simp only [argEnv]; rfl) ?_
 repeat (first | refine RunL.pureI Tryz.tOk rfl rfl rfl (by (rfl)) ?_ | refine RunL.pure Tryz.tOk rfl rfl rfl ?_ | refine ZzQ ?_ | refine ZzR ?_ | refine ZzN ?_)
 refine RunE.condF rfl (decide_eq_false (by omega)) ?_
 repeat (first | refine RunL.pureI Tryz.tOk rfl rfl rfl (by (rfl)) ?_ | refine RunL.pure Tryz.tOk rfl rfl rfl ?_ | refine ZzQ ?_ | refine ZzR ?_ | refine ZzK ?_)
 refine RunL.val rfl rfl rfl (OpV.cap Tryz.tOk rfl rfl) ?_
 repeat (first | refine RunL.pureI Tryz.tOk rfl rfl rfl (by (first | exact wr_i64 (by omega) (by omega) | rfl)) ?_ | refine RunL.pure Tryz.tOk rfl rfl rfl ?_ | refine ZzQ ?_ | refine ZzR ?_ | refine ZzN ?_)
 refine RunE.cond rfl (fun hn => ?_) (fun hn => ?_) <;> (first | replace hn := of_decide_eq_true hn | replace hn := of_decide_eq_false hn)
 ·repeat (first | refine RunL.pure Tryz.tOk rfl rfl rfl ?_ | refine ZzR ?_)
  refine RunL.val rfl rfl rfl (OpV.cap Tryz.tOk rfl rfl) ?_
  refine RunL.val rfl rfl rfl (OpV.sliceNil Tryz.tOk rfl rfl .none (.some rfl rfl)) ?_
  repeat (first | refine RunL.pureI Tryz.tOk rfl rfl rfl (by (rfl)) ?_)
  refine RunL.ex rfl rfl rfl (OpE.growNil (m := n) Tryz.tOk rfl rfl rfl rfl rfl rfl rfl (by simp) (by omega) (by show n * 120 ≤ _; omega) (by omega)) ?_
  rintro _ w1 ⟨B, cap, rfl, hc, hcm, hB, X1, cur, hcur, hsz⟩
  repeat (first | refine RunL.pureI Tryz.tOk rfl rfl rfl (by (rfl)) ?_ | refine RunL.pure Tryz.tOk rfl rfl rfl ?_)
  refine RunL.val rfl rfl rfl (OpV.slice0 (hi := 0) Tryz.tOk rfl rfl .none (.some rfl rfl) (by omega)) ?_
  repeat (first | refine RunL.pure Tryz.tOk rfl rfl rfl ?_ | refine ZzQ ?_ | refine ZzR ?_ | refine ZzN ?_)
  refine RunE.retFn Tryz.func90 (.tmp rfl .nil) ⟨⟨by simp, .inr ⟨B, cap, cur, rfl, by omega, hcur, by omega, hcm, hsz, by simp⟩⟩, X1⟩
 ·repeat (first | refine RunL.pure Tryz.tOk rfl rfl rfl ?_ | refine ZzQ ?_ | refine ZzR ?_ | refine ZzN ?_ | refine ZzK ?_)
  exact RunE.retFn Tryz.func90 (.tmp rfl .nil) ⟨World.ownsRow_nil _ _ _ _, .refl _ _⟩
set_option maxHeartbeats 2000000 in
theorem ddConcat_ok (ls : List Ll) (lv : Value) (w : World) (hv : LLl w lv ls) (hp : ∀ x ∈ ls, LDr w x.v x.l) (hl : ls.length ≤ 100000) (hn : lenD ls ≤ 100000) :
  Rets Tryz.prog 64 [lv] w fun v w' => w'.ownsRow w.heap.size 38 39 v (allD ls).length (flat Dr.cells (allD ls)) ∧ Ext w w' := by
 refine RetsX.of (nt := 36) Tryz.func64 (by kernel_rfl) rfl rfl (by simp) (by simp only [argEnv]; rfl) ?_
 have X := ExtB.refl (fun _ => False) w
 repeat' (first | (with_reducible refine RunLN.chk ?_; refine RunLN.int (by (rfl)) ?_) | refine ZzA ?_ | refine RunL.ev Tryz.tOk rfl rfl rfl ?_ | refine RunL.evV rfl rfl rfl (OpV.lenSl Tryz.tOk rfl rfl hv) ?_ | refine ZzQ ?_ | refine ZzR ?_ | refine ZzN ?_ | refine ZzB ?_)
 refine RunE.loop (ι := Nat) (fun s => [(0, lv), (3, .int .i64 (lenD (ls.take s) : Int)), (9, lv), (10, .int .i64 (ls.length : Int)), (11, .int .i64 (s : Int))])
  (fun s w' => s ≤ ls.length ∧ Ext w w') (fun s => ls.length - s) 0 (by repeat (first | exact Sub.nil _ | refine Sub.cons rfl ?_)) ⟨Nat.zero_le _, X⟩ ?_
 clear X
 rintro i w3 ⟨hi, X⟩ again
 by_cases hlt : i < ls.length
 ·obtain ⟨b1, o1, cc, rfl, hr1, -⟩ := isL_held hv hlt
  obtain ⟨x, hx⟩ : ∃ x, ls[i]? = some x := ⟨_, List.getElem?_eq_getElem hlt⟩
  have hrx := flat_row encLl hr1 hx
  have e2 := lenD_take hx
  have e3 := lenD_le ls (i + 1)
  have next := fun w' a => again (i + 1) w' (by omega) ⟨by omega, a⟩
  rw [e2, Int.natCast_add] at next
  clear again
  generalize lenD (ls.take i) = m at *
  repeat' (first | with_reducible refine ZzG rfl ?_ | (with_reducible refine RunLN.decT ?_ ?_; focus omega) | (with_reducible refine RunLN.chk ?_; refine RunLN.int (by (first | (refine wr_i64 ?_ ?_; omega; omega) | rfl)) ?_) | refine ZzA ?_ | refine RunL.ev Tryz.tOk rfl rfl rfl ?_ | refine RunL.evV rfl rfl rfl (OpV.load1 Tryz.tOk rfl rfl rfl ((hrx.up X) 0 _ rfl)) ?_ | refine RunL.evV rfl rfl rfl (OpV.indexS Tryz.tOk _ rfl rfl rfl rfl (by omega)) ?_ | refine ZzT rfl rfl ?_ | refine ZzF rfl rfl ?_ | refine ZzQ ?_ | refine ZzR ?_ | refine ZzN ?_ | refine ZzB ?_ | refine ZzI ?_ | refine ZzK ?_)
  exact RunE.weaken (by repeat (first | exact Sub.nil _ | refine Sub.cons rfl ?_)) (next _ X)
 obtain rfl : i = ls.length := by omega
 rw [List.take_length]
 clear again
 repeat' (first | (with_reducible refine RunLN.decF ?_ ?_; focus omega) | (with_reducible refine RunLN.chk ?_; refine RunLN.int (by (rfl)) ?_) | refine RunL.ev Tryz.tOk rfl rfl rfl ?_ | refine ZzF rfl rfl ?_ | refine ZzQ ?_ | refine ZzR ?_ | refine ZzN ?_ | refine RunE.exit rfl ?_)
 refine RunL.call rfl rfl rfl (ddGrow_ok (lenD ls) _ (by omega)) ?_
 rintro v0 w4 ⟨O4, X4⟩
 have O5 : w4.ownsRow w.heap.size 38 39 v0 0 [] := ownsRow_base O4 X.size
 replace X := X.trans X4
 repeat' (first | (with_reducible refine RunLN.chk ?_; refine RunLN.int (by (rfl)) ?_) | refine ZzA ?_ | refine RunL.ev Tryz.tOk rfl rfl rfl ?_ | refine RunL.evV rfl rfl rfl (OpV.lenSl Tryz.tOk rfl rfl hv) ?_ | refine ZzQ ?_ | refine ZzR ?_ | refine ZzN ?_ | refine ZzB ?_)
 refine RunE.loop (ι := Nat × Value) (fun s => [(6, s.2), (25, lv), (26, .int .i64 (ls.length : Int)), (27, .int .i64 (s.1 : Int))])
  (fun s w' => s.1 ≤ ls.length ∧ Ext w w' ∧ w'.ownsRow w.heap.size 38 39 s.2 (allD (ls.take s.1)).length (flat Dr.cells (allD (ls.take s.1)))) (fun s => ls.length - s.1) (0, v0) (by repeat (first | exact Sub.nil _ | refine Sub.cons rfl ?_)) ⟨Nat.zero_le _, X, O5⟩ ?_
 clear O4 O5 X4 X
 rintro ⟨i, u⟩ w5 ⟨hi, X, O⟩ again
 simp only at hi O again ⊢
 by_cases hlt : i < ls.length
 ·obtain ⟨b1, o1, cc, rfl, hr1, -⟩ := isL_held hv hlt
  obtain ⟨x, hx⟩ : ∃ x, ls[i]? = some x := ⟨_, List.getElem?_eq_getElem hlt⟩
  have hrx := flat_row encLl hr1 hx
  have hxl := hp x (List.mem_of_getElem? hx)
  have hall : allD (ls.take (i + 1)) = allD (ls.take i) ++ x.l := by unfold allD; rw [List.take_add_one, hx, List.flatMap_append]; simp
  have hlen : (allD (ls.take (i + 1))).length ≤ 100000 := by rw [allD_len]; exact Nat.le_trans (lenD_le ls _) hn
  rw [hall, List.length_append] at hlen
  have hX := X.size
  repeat' (first | (with_reducible refine RunLN.decT ?_ ?_; focus omega) | refine ZzA ?_ | refine RunL.ev Tryz.tOk rfl rfl rfl ?_ | refine RunL.evV rfl rfl rfl (OpV.load1 Tryz.tOk rfl rfl rfl ((hrx.up X) 0 _ rfl)) ?_ | refine RunL.evV rfl rfl rfl (OpV.indexS Tryz.tOk _ rfl rfl rfl rfl (by omega)) ?_ | refine ZzT rfl rfl ?_ | refine ZzQ ?_ | refine ZzR ?_ | refine ZzN ?_ | refine ZzB ?_ | refine ZzK ?_)
  refine RunL.ex rfl rfl rfl (OpE.append' Tryz.tOk rfl rfl rfl rfl rfl rfl O (hxl.up X) (flat_plain encR x.l) (by show _ * 120 ≤ _; omega) (by omega) hX) ?_
  rintro u3 w6 ⟨O3, E3, -⟩
  have X3 : Ext w w6 := X.write E3 (by intro k hk hlt; have := ownsRow_ge O hk; omega)
  repeat' (first | (with_reducible refine RunLN.chk ?_; refine RunLN.int (by (first | (refine wr_i64 ?_ ?_; omega; omega) | rfl)) ?_) | refine ZzA ?_ | refine RunL.ev Tryz.tOk rfl rfl rfl ?_ | refine ZzR ?_ | refine ZzN ?_ | refine ZzI ?_)
  refine RunE.weaken (by repeat (first | exact Sub.nil _ | refine Sub.cons rfl ?_)) (again (i + 1, u3) _ (by simp only; omega) ⟨by simp only; omega, X3, ?_⟩)
  simp only
  rw [hall, List.length_append, flat_append]; exact O3
 ·obtain rfl : i = ls.length := by omega
  rw [List.take_length] at O
  clear again
  repeat' (first | (with_reducible refine RunLN.decF ?_ ?_; focus omega) | refine ZzA ?_ | refine RunL.ev Tryz.tOk rfl rfl rfl ?_ | refine ZzF rfl rfl ?_ | refine ZzQ ?_ | refine ZzR ?_ | refine ZzN ?_ | refine RunE.exit rfl ?_)
  exact RunE.retFn Tryz.func64 (.tmp rfl .nil) ⟨O, X⟩
theorem msorted_ok (ls : List Ll) (lv : Value) (w : World) (hv : LLl w lv ls) (hp : ∀ x ∈ ls, LDr w x.v x.l) (hl : ls.length ≤ 100000) (hn : lenD ls ≤ 100000) :
  Rets Tryz.prog 34 [orderV, lv] w fun r w' => (∃ s : List Dr, s.Perm (allD ls) ∧ (s.Pairwise fun a b => ¬ befD b.d a.d = true) ∧ LDr w' r s) ∧ Ext w w' := by
 refine RetsX.of (nt := 12) Tryz.func34 (by kernel_rfl) rfl rfl (by simp) (by simp only [argEnv]; rfl) ?_
 repeat' (first | refine ZzA ?_ | refine RunL.ev Tryz.tOk rfl rfl rfl ?_ | refine ZzQ ?_ | refine ZzR ?_ | refine ZzN ?_)
 refine RunL.call rfl rfl rfl (ddConcat_ok ls lv w hv hp hl hn) ?_
 rintro r w1 ⟨h1, X1⟩
 repeat' (first | refine ZzA ?_ | refine RunL.ev Tryz.tOk rfl rfl rfl ?_ | refine ZzQ ?_ | refine ZzR ?_ | refine ZzN ?_)
 refine RunL.call rfl rfl rfl (ddSort_ok (allD ls) r w.heap.size w1 h1 (by rw [allD_len]; exact hn)) ?_
 rintro _ w2 ⟨⟨s, h3, h4, h5⟩, h6⟩
 repeat' (first | refine ZzA ?_ | refine RunL.ev Tryz.tOk rfl rfl rfl ?_ | refine ZzQ ?_ | refine ZzR ?_ | refine ZzN ?_)
 exact RunE.retFn Tryz.func34 (.tmp rfl .nil) ⟨⟨s, h3, h4, h5⟩, X1.write h6 (by intro k hk hlt; omega)⟩
end
end Go.Sg
end
section
/- Merge: what a deed rests on; what the laws need; plain. -/
set_option maxRecDepth 4000
namespace Go.Mer
open Go.NT Go.Sg Go.Sha Go.Cod Go.Dee
theorem log_at {ks : List Int} {p : Int} : ∀ (l : List Deed), logD ks l = true → ∀ n : Int, 0 ≤ n → n < nextD l p → ∃ y ∈ l, y.person = p ∧ y.no = n := by
 apply left_snoc_ind
 ·intro _ n h0 h1; simp [nextD, ofD] at h1; omega
 ·intro l d ih h n h0 h1
  obtain ⟨h2, h3⟩ := logD_unsnoc h
  rw [nextD_snoc] at h1
  by_cases hd : d.person = p
  ·rw [if_pos hd] at h1
   by_cases hn : n < nextD l p
   ·obtain ⟨y, hy, e⟩ := ih h2 n h0 hn
    exact ⟨y, List.mem_append_left _ hy, e⟩
   ·refine ⟨d, by simp, hd, ?_⟩
    have := (stepD_inv h3).2.1
    rw [hd] at this; omega
  ·rw [if_neg hd] at h1
   obtain ⟨y, hy, e⟩ := ih h2 n h0 (by omega)
   exact ⟨y, List.mem_append_left _ hy, e⟩
theorem log_apart {ks : List Int} : ∀ (l : List Deed), logD ks l = true → Apart l := by
 apply left_snoc_ind
 ·intro _; exact List.Pairwise.nil
 ·intro l d ih h
  obtain ⟨h2, h3⟩ := logD_unsnoc h
  refine List.pairwise_append.2 ⟨ih h2, List.pairwise_singleton _ _, fun a ha b hb => ?_⟩
  rw [List.mem_singleton] at hb
  subst hb
  rintro ⟨e1, e2⟩
  have h4 := log_no h2 a ha
  have h5 := (stepD_inv h3).2.1
  rw [e1] at h4; omega
theorem log_sorted {ks : List Int} : ∀ (l : List Deed), logD ks l = true → l.Pairwise (fun x y => befD x y = true) := by
 apply left_snoc_ind
 ·intro _; exact List.Pairwise.nil
 ·intro l d ih h
  obtain ⟨h2, h3⟩ := logD_unsnoc h
  have h4 := ih h2
  refine List.pairwise_append.2 ⟨h4, List.pairwise_singleton _ _, fun a ha b hb => ?_⟩
  rw [List.mem_singleton] at hb
  subst hb
  have h5 := (stepD_inv h3).2.2.2.1
  unfold afterD at h5
  rcases List.eq_nil_or_concat l with rfl | ⟨m, y, rfl⟩
  ·simp at ha
  ·rw [List.concat_eq_append] at *
   rw [List.getLast?_concat] at h5
   simp only at h5
   rcases List.mem_append.1 ha with ha | ha
   ·exact befD_trans ((List.pairwise_append.1 h4).2.2 a ha y (by simp)) h5
   ·rw [List.mem_singleton] at ha; subst ha; exact h5
theorem log_last {ks : List Int} {l : List Deed} (h : logD ks l = true) {y : Deed} (hy : y ∈ l) (hn : y.no + 1 = nextD l y.person) : lastD l y.person = idD y := by
 cases hx : lastR l y.person with
 | none =>
  have h0 : ofD l y.person = [] := by unfold lastR at hx; exact List.getLast?_eq_none_iff.1 hx
  have : y ∈ ofD l y.person := by unfold ofD; rw [List.mem_filter]; exact ⟨hy, by simp⟩
  rw [h0] at this; simp at this
 | some x =>
  obtain ⟨h1, h2⟩ := last_no h x hx
  have hm : x ∈ ofD l y.person := by unfold lastR at hx; exact List.mem_of_getLast? hx
  unfold ofD at hm
  rw [List.mem_filter, decide_eq_true_eq] at hm
  have : x = y := (log_apart l h).uniq hm.1 hy ⟨hm.2, by omega⟩
  subst this
  rw [h2]
  exact idG_of (fineD_inv (logD_fine h x hy)).1
def restsD (out : List Deed) (d : Deed) : Bool := ((d.no == 0) || out.any fun y => decide (y.person = d.person ∧ y.no = d.no - 1 ∧ y.at_ ≤ d.at_) && (idG y == d.prev)) && d.seen.all fun x => out.any fun y => decide (y.person ≠ d.person) && befD y d && (idG y == x)
theorem restsD_iff {out : List Deed} {d : Deed} : restsD out d = true ↔ (d.no = 0 ∨ ∃ y ∈ out, y.person = d.person ∧ y.no = d.no - 1 ∧ y.at_ ≤ d.at_ ∧ idG y = d.prev) ∧ ∀ x ∈ d.seen, ∃ y ∈ out, y.person ≠ d.person ∧ befD y d = true ∧ idG y = x := by
 unfold restsD
 simp only [Bool.and_eq_true, Bool.or_eq_true, List.any_eq_true, List.all_eq_true, beq_iff_eq, decide_eq_true_eq, and_assoc]
theorem met_iff {l : List Deed} {p : Int} {x : Dg} : metD l p x = true ↔ ∃ y ∈ l, y.person ≠ p ∧ idD y = x := by
 unfold metD
 simp only [Bool.and_eq_true, List.any_eq_true, beq_iff_eq, decide_eq_true_eq]
/-- A deed rests on what came before: the next step of the log. -/
theorem step_of_rests {ks : List Int} {out big : List Deed} {d : Deed} (h : logD ks out = true) (hd : fineD ks d = true) (hb : ∀ y ∈ out, befD y d = true) (hp : ∀ y ∈ out, ¬ placeEq y d) (hf : ∀ y ∈ big, fineD ks y = true)
  (hin : ∀ y ∈ big, befD y d = true → y ∈ out) (hr : restsD big d = true) : stepD ks out d = true := by
 obtain ⟨h1, h2⟩ := restsD_iff.1 hr
 obtain ⟨⟨p0, p1, n0, n1, -⟩, -, hz⟩ := formedD_inv (fineD_inv hd).1
 have hno : ¬ d.no < nextD out d.person := fun hlt => by
  obtain ⟨y, hy, e1, e2⟩ := log_at out h d.no n0 hlt
  exact hp y hy ⟨e1, e2⟩
 have hnn := nextD_nonneg out d.person
 have hmain : d.no = nextD out d.person ∧ d.prev = lastD out d.person := by
  rcases h1 with h1 | ⟨y, hy, e1, e2, e3, e4⟩
  ·have h3 : nextD out d.person = 0 := by omega
   refine ⟨by omega, ?_⟩
   rw [last_zero h3]
   rcases hz with hz | hz
   ·omega
   ·exact hz
  ·have hyf := hf y hy
   obtain ⟨⟨-, -, y0, -⟩, -⟩ := formedD_inv (fineD_inv hyf).1
   have hy' : y ∈ out := hin y hy (befD_iff.2 (by omega))
   have h3 := log_no h y hy'
   rw [e1] at h3
   have h4 : d.no = nextD out d.person := by omega
   refine ⟨h4, ?_⟩
   have h5 := log_last h hy' (by rw [e1]; omega)
   rw [e1] at h5
   rw [h5, ← e4, idG_of (fineD_inv hyf).1]
 refine stepD_of hd hmain.1 hmain.2 ?_ fun x hx => ?_
 ·unfold afterD
  split
  ·rename_i y hy
   exact hb y (List.mem_of_getLast? hy)
  ·rfl
 ·obtain ⟨y, hy, e1, e2, e3⟩ := h2 x hx
  exact met_iff.2 ⟨y, hin y hy e2, e1, by rw [← e3, idG_of (fineD_inv (hf y hy)).1]⟩
theorem rests_of_step {ks : List Int} {out : List Deed} {d : Deed} (h : logD ks out = true) (hb : ∀ y ∈ out, befD y d = true) (hs : stepD ks out d = true) : restsD out d = true := by
 obtain ⟨h1, h2, h3, -, h5⟩ := stepD_inv hs
 obtain ⟨⟨p0, p1, n0, n1, -⟩, -⟩ := formedD_inv (fineD_inv h1).1
 refine restsD_iff.2 ⟨?_, fun x hx => ?_⟩
 ·by_cases hn : d.no = 0
  ·exact .inl hn
  ·right
   obtain ⟨y, hy, e1, e2⟩ := log_at (p := d.person) out h (d.no - 1) (by omega) (by omega)
   have h6 := log_last h hy (by rw [e1]; omega)
   rw [e1] at h6
   refine ⟨y, hy, e1, e2, ?_, ?_⟩
   ·have := befD_iff.1 (hb y hy); omega
   ·rw [h3, h6, idG_of (fineD_inv (logD_fine h y hy)).1]
 ·obtain ⟨y, hy, e1, e2⟩ := met_iff.1 (h5 x hx)
  exact ⟨y, hy, e1, hb y hy, by rw [← e2, idG_of (fineD_inv (logD_fine h y hy)).1]⟩
theorem rests_eq {ks : List Int} {out : List Deed} {d : Deed} (h : logD ks out = true) (hd : fineD ks d = true) (hb : ∀ y ∈ out, befD y d = true) (hp : ∀ y ∈ out, ¬ placeEq y d) : restsD out d = stepD ks out d := by
 rw [Bool.eq_iff_iff]
 exact ⟨fun hr => step_of_rests h hd hb hp (logD_fine h) (fun y hy _ => hy) hr, rests_of_step h hb⟩
/-- In order, each place once, all of them right. -/
structure Srt (ks : List Int) (s : List Deed) : Prop where
 srt : s.Pairwise fun x y => befD x y = true
 ap : Apart s
 fine : ∀ y ∈ s, fineD ks y = true
theorem Srt.split {ks : List Int} {a : List Deed} {z : Deed} {b : List Deed} (h : Srt ks (a ++ z :: b)) : Srt ks a ∧ fineD ks z = true ∧ (∀ y ∈ a, befD y z = true) ∧ (∀ y ∈ a, ¬ placeEq y z) ∧ (∀ y ∈ b, befD z y = true) :=
 ⟨⟨(List.pairwise_append.1 h.srt).1, (List.pairwise_append.1 h.ap).1, fun y hy => h.fine y (List.mem_append_left _ hy)⟩, h.fine z (by simp),
  fun y hy => (List.pairwise_append.1 h.srt).2.2 y hy z List.mem_cons_self, fun y hy => (List.pairwise_append.1 h.ap).2.2 y hy z List.mem_cons_self,
  fun y hy => (List.pairwise_cons.1 (List.pairwise_append.1 h.srt).2.1).1 y hy⟩
/-- Sorted, of what is taken. -/
theorem sort_srt (ks : List Int) (l : List Deed) : Srt ks (sortD (takenD (leftD ks l))) := by
 have h := left_lft ks l
 obtain ⟨h1, h2⟩ := sortD_spec (taken_apart h)
 refine ⟨h2, List.Pairwise.perm (taken_apart h) h1.symm (fun h e => h ⟨e.1.symm, e.2.symm⟩), fun y hy => ?_⟩
 exact (left_mem l y (taken_mem.1 (h1.subset hy)).1).2
end Go.Mer
end
section
/- Merge: for the laws, plain. -/
set_option maxRecDepth 4000
namespace Go.Mer
open Go.NT Go.Sg Go.Sha Go.Cod Go.Dee
/-! ### Lists that are merged to themselves -/
theorem at_le_one {l : List Deed} (h : Apart l) (p n : Int) : (atL id l p n).length < 2 := by
 have h1 : (atL id l p n).Pairwise fun a b => ¬ placeEq a b := h.sublist List.filter_sublist
 rcases hl : atL id l p n with _ | ⟨a, _ | ⟨b, r⟩⟩
 ·simp
 ·simp
 ·rw [hl] at h1
  have ha := (at_mem (l := l) (p := p) (n := n) (y := a)).1 (by rw [hl]; simp)
  have hb := (at_mem (l := l) (p := p) (n := n) (y := b)).1 (by rw [hl]; simp)
  exact absurd ⟨ha.2.1.trans hb.2.1.symm, ha.2.2.trans hb.2.2.symm⟩ ((List.pairwise_cons.1 h1).1 b (by simp))
theorem apart_fork {l : List Deed} (h : Apart l) (p : Int) : forkD l p = none := by
 cases e : forkD l p with
 | none => rfl
 | some n => have := (forkD_some e).2.1; have := at_le_one h p n; omega
theorem apart_taken {l : List Deed} (h : Apart l) : takenD l = l := by
 unfold takenD takenL
 refine List.filter_eq_self.2 fun y _ => ?_
 unfold keptL
 have := apart_fork h y.person
 simp only [id] at this ⊢
 rw [show forkL id l y.person = none from this]
theorem left_self {ks : List Int} : ∀ l : List Deed, (l.Pairwise fun a b => sameF a b = false) → (∀ y ∈ l, fineD ks y = true) → leftD ks l = l := by
 apply left_snoc_ind
 ·intro _ _; rfl
 ·intro l d ih hp hf
  rw [foldL_snoc, ih (List.pairwise_append.1 hp).1 fun y hy => hf y (List.mem_append_left _ hy)]
  unfold stepL
  have h1 : thereL id l d = false := by
   cases e : thereL id l d with
   | false => rfl
   | true =>
    obtain ⟨y, hy, e⟩ := thereL_iff.1 e
    rw [(List.pairwise_append.1 hp).2.2 y hy d (by simp)] at e; cases e
  simp only [id]
  rw [if_pos (show (fineD ks d && !thereL id l d) = true by rw [hf d (by simp), h1]; rfl)]
theorem pass_self {ks : List Int} : ∀ l : List Deed, logD ks l = true → passL id ks l = l := by
 apply left_snoc_ind
 ·intro _; rfl
 ·intro l d ih h
  obtain ⟨h1, h2⟩ := logD_unsnoc h
  rw [pass_snoc, ih h1, h2]; rfl
/-! ### Parts of one log -/
def pickD : List Bool → List Deed → List Deed
 | b :: bs, d :: l => if b then d :: pickD bs l else pickD bs l
 | _, _ => []
theorem pick_sub : ∀ (bs : List Bool) (l : List Deed), (pickD bs l).Sublist l
 | [], l => by simp [pickD]
 | b :: bs, [] => by simp [pickD]
 | b :: bs, d :: l => by
  unfold pickD
  split
  ·exact (pick_sub bs l).cons_cons d
  ·exact (pick_sub bs l).cons d
theorem same_members {a b : List Deed} (ha : a.Pairwise fun x y => befD x y = true) (hb : b.Pairwise fun x y => befD x y = true) (h : ∀ y, y ∈ a ↔ y ∈ b) : a = b := by
 refine sorted_eq ?_ ha hb
 have nd : ∀ {l : List Deed}, (l.Pairwise fun x y => befD x y = true) → l.Nodup := fun hl => List.Pairwise.imp (fun hab e => by rw [e, befD_irrefl] at hab; cases hab) hl
 exact (List.perm_ext_iff_of_nodup (nd ha) (nd hb)).2 h
/-- Parts that hold the deeds of a log that bear a mark. -/
theorem truth_sort {ks : List Int} {l : List Deed} (h : logD ks l = true) {bs : List Bool} {parts : List Deed} (hm : ∀ y, y ∈ parts ↔ y ∈ pickD bs l) : (∀ p, forkD (leftD ks parts) p = none) ∧ sortD (takenD (leftD ks parts)) = pickD bs l := by
 have ha := log_apart l h
 have hl : ∀ y, y ∈ leftD ks parts ↔ y ∈ pickD bs l := by
  intro y
  constructor
  ·intro hy; exact (hm y).1 (left_mem parts y hy).1
  ·intro hy
   obtain ⟨z, hz, hs⟩ := left_has (ks := ks) parts y ((hm y).2 hy) (logD_fine h y ((pick_sub bs l).subset hy))
   have : z = y := ha.uniq ((pick_sub bs l).subset ((hm z).1 (left_mem parts z hz).1)) ((pick_sub bs l).subset hy) ⟨(sameF_iff.1 hs).1, (sameF_iff.1 hs).2.1⟩
   rw [← this]; exact hz
 have hap : Apart (leftD ks parts) := by
  refine List.Pairwise.imp ?_ (List.Pairwise.and_mem.1 (left_apart parts))
  rintro a b ⟨h1, h2, h3⟩ h4
  have := ha.uniq ((pick_sub bs l).subset ((hl a).1 h1)) ((pick_sub bs l).subset ((hl b).1 h2)) h4
  rw [this, sameF_refl] at h3; cases h3
 refine ⟨apart_fork hap, ?_⟩
 rw [apart_taken hap]
 obtain ⟨h1, h2⟩ := sortD_spec hap
 refine same_members h2 ((log_sorted l h).sublist (pick_sub bs l)) fun y => ?_
 rw [h1.mem_iff, hl]
/-! ### Named -/
def liarAt {α : Type} (f : α → Deed) (l : List α) (p : Nat) : Option (α × α) := match forkL f l (p : Int) with
 | none => none
 | some n => match atL f l (p : Int) (n : Int) with
  | a :: b :: _ => some (a, b)
  | _ => none
def liarsL {α : Type} (f : α → Deed) (l : List α) : List (α × α) := (List.range 64).filterMap (liarAt f l)
/-! ### The same deeds, but for their signatures -/
end Go.Mer
end
section
/- Merge: what its loops keep (plain). -/
set_option maxRecDepth 4000
namespace Go.Mer
open Go.Rn Go.Rec Go.Dee Go.RowKit Go.Sha
/-! ### Who has forked -/
def endM (xs : List (Nat × Nat)) : List (Int × Value) := xs.foldl (fun m x => setM (x.1 : Int) (.int .i64 (x.2 : Int)) m) []
theorem endM_snoc (xs : List (Nat × Nat)) (x : Nat × Nat) : endM (xs ++ [x]) = setM (x.1 : Int) (.int .i64 (x.2 : Int)) (endM xs) := by
 unfold endM; rw [List.foldl_append]; rfl
theorem endM_get (out : List Dr) (p : Nat) : ∀ n, getM (p : Int) (endM (forkTo out n)) = if p < n then (forkL Dr.d out (p : Int)).map (fun q => Value.int .i64 (q : Int)) else none
 | 0 => by rw [if_neg (Nat.not_lt_zero p)]; rfl
 | n + 1 => by
  have ih := endM_get out p n
  rw [forkTo_succ]
  cases h : forkL Dr.d out (n : Int) with
  | none =>
   simp only [Option.map_none, Option.toList_none, List.append_nil]
   rw [ih]
   by_cases h1 : p < n
   ·rw [if_pos h1, if_pos (by omega)]
   ·rw [if_neg h1]
    by_cases h2 : p < n + 1
    ·obtain rfl : p = n := by omega
     rw [if_pos h2, h]; rfl
    ·rw [if_neg h2]
  | some q =>
   simp only [Option.map_some, Option.toList_some]
   rw [endM_snoc, getM_set, ih]
   by_cases h1 : p = n
   ·subst h1
    rw [if_pos rfl, if_pos (by omega), h]; rfl
   ·rw [if_neg (by simp only; omega)]
    by_cases h2 : p < n
    ·rw [if_pos h2, if_pos (by omega)]
    ·rw [if_neg h2, if_neg (by omega)]
theorem endM_out (out : List Dr) (p : Int) : ∀ n : Nat, (∀ k : Nat, k < n → p ≠ (k : Int)) → getM p (endM (forkTo out n)) = none
 | 0, _ => rfl
 | n + 1, hk => by
  have ih := endM_out out p n fun k h => hk k (by omega)
  rw [forkTo_succ]
  cases h : forkL Dr.d out (n : Int) with
  | none => simpa using ih
  | some q =>
   simp only [Option.map_some, Option.toList_some]
   rw [endM_snoc, getM_set, if_neg (hk n (by omega)), ih]
theorem endM_all {out : List Dr} (hf : ∀ y ∈ out, 0 ≤ y.d.person ∧ y.d.person < 64) (p : Int) : getM p (endM (forkTo out 64)) = (forkL Dr.d out p).map (fun q => Value.int .i64 (q : Int)) := by
 by_cases h : 0 ≤ p ∧ p < 64
 ·have e : ((p.toNat : Nat) : Int) = p := by omega
  have := endM_get out p.toNat 64
  rw [e, if_pos (by omega)] at this
  exact this
 ·rw [endM_out out p 64 fun k hk e => h ⟨by omega, by omega⟩, forkL_no fun m _ => ?_]
  ·rfl
  ·have : grpD out (p, (m : Int)) = [] := by
    unfold grpD atL
    rw [List.filter_eq_nil_iff]
    intro y hy
    have := hf y hy
    simp only [decide_eq_true_eq, not_and]
    intro e _
    exact h ⟨by omega, by omega⟩
   rw [this]; simp
/-! ### What is taken -/
def sAddr : Value → Option Addr | .slice d _ _ => d | _ => none
def sCap : Value → Nat | .slice _ _ c => c | _ => 0
def keptK (out : List Dr) (k : Int × Int) : Bool := match forkL Dr.d out k.1 with
 | none => true
 | some n => decide (k.2 < (n : Int))
def entL (out : List Dr) (y : (Int × Int) × Value) : Ll := ⟨grpD out y.1, sAddr y.2, sCap y.2⟩
def tkL (out : List Dr) (ys : List ((Int × Int) × Value)) : List Ll := (ys.filter fun y => keptK out y.1).map (entL out)
theorem tk_snoc (out : List Dr) (ys : List ((Int × Int) × Value)) (y : (Int × Int) × Value) : tkL out (ys ++ [y]) = if keptK out y.1 then tkL out ys ++ [entL out y] else tkL out ys := by
 unfold tkL
 rw [List.filter_append]
 cases h : keptK out y.1 <;> simp [h]
theorem tk_len (out : List Dr) (ys : List ((Int × Int) × Value)) : (tkL out ys).length ≤ ys.length := by
 unfold tkL; rw [List.length_map]; exact List.length_filter_le _ _
theorem grp_key (out : List Dr) (k : Int × Int) : grpD out k = out.filter fun x => decide ((x.d.person, x.d.no) = k) := by
 unfold grpD atL
 refine List.filter_congr fun x _ => ?_
 rw [Bool.eq_iff_iff, decide_eq_true_eq, decide_eq_true_eq]
 obtain ⟨k1, k2⟩ := k
 simp
theorem tk_all {out : List Dr} {m ys : List ((Int × Int) × Value)} (hk : ∀ x ∈ out, (x.d.person, x.d.no) ∈ m.map (·.1)) (hn : (m.map (·.1)).Nodup) (hp : ys.Perm m) : (allD (tkL out ys)).Perm (takenL Dr.d out) := by
 have e1 : allD (tkL out ys) = ((ys.filter fun y => keptK out y.1).map (·.1)).flatMap fun k => out.filter fun x => decide ((x.d.person, x.d.no) = k) := by
  unfold allD tkL
  rw [List.flatMap_map, List.flatMap_map]
  congr 1
  funext y
  exact grp_key out y.1
 have hnd : ((ys.filter fun y => keptK out y.1).map (·.1)).Nodup := (List.filter_sublist.map _).nodup ((hp.map _).nodup_iff.2 hn)
 rw [e1]
 refine (keys_perm (fun x : Dr => (x.d.person, x.d.no)) out _ hnd).trans ?_
 unfold takenL
 refine List.Perm.of_eq (List.filter_congr fun x hx => ?_)
 rw [Bool.eq_iff_iff, List.any_eq_true]
 constructor
 ·rintro ⟨k, hk', e⟩
  obtain ⟨y, hy, e2⟩ := List.mem_map.1 hk'
  have := (List.mem_filter.1 hy).2
  rw [e2, ← of_decide_eq_true e] at this
  exact this
 ·intro h
  obtain ⟨y, hy, e⟩ := List.mem_map.1 ((hp.map (·.1)).mem_iff.2 (hk x hx))
  exact ⟨y.1, List.mem_map.2 ⟨y, List.mem_filter.2 ⟨hy, by rw [e]; exact h⟩, rfl⟩, decide_eq_true e.symm⟩
/-! ### One pass -/
theorem sorted_srt (ks : List Int) (L s : List Dr) (hp : s.Perm (takenL Dr.d (leftL Dr.d ks L))) (hs : s.Pairwise fun a b => ¬ befD b.d a.d = true) : s.map Dr.d = sortD (takenD (leftD ks (L.map Dr.d))) := by
 have h := hp.map Dr.d
 rw [takenL_map, leftL_map] at h
 exact sort_uniq (taken_apart (left_lft ks _)) h (List.pairwise_map.2 hs)
theorem passR_snoc (ks : List Int) (l : List Dr) (y : Dr) : passL Dr.d ks (l ++ [y]) = if stepD ks ((passL Dr.d ks l).map Dr.d) y.d then passL Dr.d ks l ++ [y] else passL Dr.d ks l := by
 unfold passL
 rw [List.foldl_append]; rfl
theorem passR_go (ks : List Int) : ∀ (l out : List Dr), ∃ t, l.foldl (fun out y => if stepD ks (out.map Dr.d) y.d then out ++ [y] else out) out = out ++ t ∧ t.Sublist l
 | [], out => ⟨[], by simp⟩
 | x :: l, out => by
  obtain ⟨t, h1, h2⟩ := passR_go ks l (if stepD ks (out.map Dr.d) x.d then out ++ [x] else out)
  rw [List.foldl_cons, h1]
  split
  ·exact ⟨x :: t, by simp, h2.cons_cons x⟩
  ·exact ⟨t, rfl, h2.cons x⟩
theorem passR_sub (ks : List Int) (l : List Dr) : (passL Dr.d ks l).Sublist l := by
 obtain ⟨t, h1, h2⟩ := passR_go ks l []
 rw [List.nil_append] at h1
 unfold passL
 rw [h1]; exact h2
theorem pass_cond {ks : List Int} {s : List Dr} (h : Srt ks (s.map Dr.d)) {i : Nat} {x : Dr} (hx : s[i]? = some x) : fineD ks x.d = true ∧
  stepD ks ((passL Dr.d ks (s.take i)).map Dr.d) x.d = ((x.d.no == nextD ((passL Dr.d ks (s.take i)).map Dr.d) x.d.person) && (x.d.prev == lastD ((passL Dr.d ks (s.take i)).map Dr.d) x.d.person) && x.d.seen.all (metD ((passL Dr.d ks (s.take i)).map Dr.d) x.d.person)) := by
 have e : s.map Dr.d = (s.take i).map Dr.d ++ x.d :: (s.drop (i + 1)).map Dr.d := by
  obtain ⟨hi, e⟩ := List.getElem?_eq_some_iff.1 hx
  rw [← List.map_cons, ← List.map_append]
  rw [← e, List.getElem_cons_drop, List.take_append_drop]
 rw [e] at h
 obtain ⟨-, h2, h3, -, -⟩ := h.split
 refine ⟨h2, ?_⟩
 have ha : afterD ((passL Dr.d ks (s.take i)).map Dr.d) x.d = true := by
  unfold afterD
  cases hg : ((passL Dr.d ks (s.take i)).map Dr.d).getLast? with
  | none => rfl
  | some y =>
   have hm := List.mem_of_getLast? hg
   exact h3 y (((passR_sub ks (s.take i)).map Dr.d).subset hm)
 unfold stepD
 rw [h2, ha, Bool.true_and, Bool.and_true]
theorem who_met (pre : List Deed) (p : Int) (g : Dg) : ((whoD pre g).any fun q => q != p) = metD pre p g := by
 unfold whoD metD
 rw [List.any_map, List.any_filter]
 congr 1
 funext y
 simp only [Function.comp]
 rw [Bool.and_comm]
 congr 1
 rw [Bool.eq_iff_iff]; simp
def NextOk (m : List (Int × Value)) (pre : List Deed) : Prop := ∀ p : Int, (getM p m).getD (.int .i64 0) = .int .i64 (nextD pre p)
def LastOk (m : List (Int × Value)) (pre : List Deed) : Prop := ∀ p : Int, (getM p m).getD (.agg (digC zeroG).toArray) = .agg (digC (lastD pre p)).toArray
theorem NextOk.nil : NextOk [] [] := fun _ => rfl
theorem LastOk.nil : LastOk [] [] := fun _ => rfl
theorem NextOk.snoc {m : List (Int × Value)} {pre : List Deed} {d : Deed} (h : NextOk m pre) (hn : d.no = nextD pre d.person) : NextOk (setM d.person (.int .i64 (d.no + 1)) m) (pre ++ [d]) := fun p => by
 rw [getM_set, nextD_snoc]
 by_cases e : p = d.person
 ·subst e
  rw [if_pos rfl, if_pos rfl, hn]; rfl
 ·rw [if_neg e, if_neg (fun h => e h.symm), Int.add_zero]; exact h p
theorem LastOk.snoc {m : List (Int × Value)} {pre : List Deed} {d : Deed} (h : LastOk m pre) : LastOk (setM d.person (.agg (digC (idD d)).toArray) m) (pre ++ [d]) := fun p => by
 rw [getM_set, lastD_snoc]
 by_cases e : p = d.person
 ·subst e
  rw [if_pos rfl, if_pos rfl]; rfl
 ·rw [if_neg e, if_neg (fun h => e h.symm)]; exact h p
end Go.Mer
end
section
/- Merge: what a deed depends on. -/
set_option maxRecDepth 4000
namespace Go.Sg
open Go.Rn Go.Proofs Go.Dee Go.Mer Go.Rec Go.RowKit Go.Sha Go.Cod Go.NT
attribute [local irreducible] Go.Rn.RetsX Go.Rn.RunLN Go.Rn.AsyN Go.Rn.RunL Go.Rn.RunE Go.Rn.Asy Go.Rn.OpV Go.Rn.OpE Go.Rn.ExecE
set_option maxHeartbeats 1000000 in
/-- Is there an element for which a function says true? -/
theorem dgindexFunc_ok (l : List Dg) (v f : Value) (p : Dg → Bool) (w : World) (hv : IsL w digC 32 v l) (hl : l.length < 9223372036854775808)
  (hf : ∀ (w' : World) (x : Dg), Ext w w' → x ∈ l → FnV Tryz.prog f [.agg (digC x).toArray] w' (fun r w'' => r = .bool (p x) ∧ Ext w' w'') fun _ _ => False) :
  Rets Tryz.prog 67 [v, f] w fun r w' => ((l.any p = true ∧ ∃ i : Nat, r = .int .i64 (i : Int)) ∨ (l.any p = false ∧ r = .int .i64 (-1))) ∧ Ext w w' := by
 refine RetsX.of (nt := 19) Tryz.func67 (by kernel_rfl) rfl rfl (by simp) (by simp only [argEnv]; rfl) ?_
 have X := ExtB.refl (fun _ => False) w
 repeat' (first | (with_reducible refine RunLN.chk ?_; refine RunLN.int (by (rfl)) ?_) | refine ZzA ?_ | refine RunL.ev Tryz.tOk rfl rfl rfl ?_ | refine RunL.evV rfl rfl rfl (OpV.lenSl Tryz.tOk rfl rfl hv) ?_ | refine ZzQ ?_ | refine ZzR ?_ | refine ZzN ?_ | refine ZzB ?_)
 refine RunE.loop (ι := Nat) (fun i => [(0, v), (1, f), (6, v), (7, .int .i64 (l.length : Int)), (8, .int .i64 (i : Int))])
  (fun i w' => i ≤ l.length ∧ (l.take i).any p = false ∧ Ext w w') (fun i => l.length - i) 0 (by repeat (first | exact Sub.nil _ | refine Sub.cons rfl ?_)) ⟨Nat.zero_le _, rfl, X⟩ ?_
 clear X
 rintro i w3 ⟨hi, ha, X⟩ again
 by_cases hlt : i < l.length
 ·obtain ⟨b, o, cap, rfl, hr, hc⟩ := isL_held hv hlt
  obtain ⟨x, hx⟩ : ∃ x, l[i]? = some x := ⟨_, List.getElem?_eq_getElem hlt⟩
  have hrx := flat_row encG hr hx
  have ht : (l.take (i + 1)).any p = p x := by rw [List.take_add_one, hx, List.any_append, ha]; simp
  repeat' (first | (with_reducible refine RunLN.decT ?_ ?_; focus omega) | (with_reducible refine RunLN.chk ?_; refine RunLN.int (by (rfl)) ?_) | refine ZzA ?_ | refine RunL.ev Tryz.tOk rfl rfl rfl ?_ | refine RunL.evV rfl rfl rfl (OpV.loadN Tryz.tOk rfl rfl rfl rfl (hrx.up X)) ?_ | refine RunL.evV rfl rfl rfl (OpV.indexS Tryz.tOk _ rfl rfl rfl rfl (by omega)) ?_ | refine ZzT rfl rfl ?_ | refine ZzQ ?_ | refine ZzR ?_ | refine ZzN ?_ | refine ZzB ?_ | refine ZzK ?_)
  refine RunL.ex rfl rfl rfl (OpE.callV rfl rfl (hf _ x X (List.mem_of_getElem? hx))) ?_
  rintro _ we_ ⟨rfl, Xe_⟩
  replace X := X.trans Xe_
  cases hp : p x with
  | true =>
   repeat' (first | (with_reducible refine RunLN.chk ?_; refine RunLN.int (by (rfl)) ?_) | refine RunL.ev Tryz.tOk rfl rfl rfl ?_ | refine ZzT rfl rfl ?_ | refine ZzQ ?_ | refine ZzR ?_ | refine ZzN ?_)
   exact RunE.retFn Tryz.func67 (.tmp rfl .nil) ⟨.inl ⟨List.any_eq_true.2 ⟨x, List.mem_of_getElem? hx, hp⟩, i, rfl⟩, X⟩
  | false =>
   rw [hp] at ht
   repeat' (first | (with_reducible refine RunLN.chk ?_; refine RunLN.int (by (first | (refine wr_i64 ?_ ?_; omega; omega) | rfl)) ?_) | refine RunL.ev Tryz.tOk rfl rfl rfl ?_ | refine ZzF rfl rfl ?_ | refine ZzR ?_ | refine ZzN ?_ | refine ZzI ?_ | refine ZzK ?_)
   exact RunE.weaken (by repeat (first | exact Sub.nil _ | refine Sub.cons rfl ?_)) (again (i + 1) _ (by omega) ⟨by omega, ht, X⟩)
 ·obtain rfl : i = l.length := by omega
  rw [List.take_length] at ha
  repeat' (first | (with_reducible refine RunLN.decF ?_ ?_; focus omega) | (with_reducible refine RunLN.chk ?_; refine RunLN.int (by (rfl)) ?_) | refine RunL.ev Tryz.tOk rfl rfl rfl ?_ | refine ZzF rfl rfl ?_ | refine ZzQ ?_ | refine ZzR ?_ | refine ZzN ?_ | refine RunE.exit rfl ?_)
  exact RunE.retFn Tryz.func67 (.tmp rfl .nil) ⟨.inr ⟨ha, rfl⟩, X⟩
theorem dgcontainsFunc_ok (l : List Dg) (v f : Value) (p : Dg → Bool) (w : World) (hv : IsL w digC 32 v l) (hl : l.length < 9223372036854775808)
  (hf : ∀ (w' : World) (x : Dg), Ext w w' → x ∈ l → FnV Tryz.prog f [.agg (digC x).toArray] w' (fun r w'' => r = .bool (p x) ∧ Ext w' w'') fun _ _ => False) :
  Rets Tryz.prog 38 [v, f] w fun r w' => r = .bool (l.any p) ∧ Ext w w' := by
 refine RetsX.of (nt := 9) Tryz.func38 (by kernel_rfl) rfl rfl (by simp) (by simp only [argEnv]; rfl) ?_
 repeat' (first | with_reducible refine ZzG rfl ?_ | refine ZzA ?_ | refine RunL.ev Tryz.tOk rfl rfl rfl ?_ | refine ZzQ ?_ | refine ZzR ?_ | refine ZzN ?_)
 refine RunL.call rfl rfl rfl (dgindexFunc_ok l v f p w hv hl hf) ?_
 rintro _ w1 ⟨⟨ha, i, rfl⟩ | ⟨ha, rfl⟩, X⟩
 ·rw [ha]
  repeat' (first | with_reducible refine ZzP rfl ?_ | refine RunL.ev Tryz.tOk rfl rfl rfl ?_ | refine ZzN ?_)
  exact RunE.retFn Tryz.func38 (.tmp rfl .nil) ⟨rfl, X⟩
 ·rw [ha]
  repeat' (first | with_reducible refine ZzG rfl ?_ | refine RunL.ev Tryz.tOk rfl rfl rfl ?_ | refine ZzN ?_)
  exact RunE.retFn Tryz.func38 (.tmp rfl .nil) ⟨rfl, X⟩
set_option maxHeartbeats 1000000 in
theorem iindexFunc_ok (l : List Int) (v f : Value) (p : Int → Bool) (w : World) (hv : LIn w v l) (hl : l.length < 9223372036854775808)
  (hf : ∀ (w' : World) (x : Int), Ext w w' → x ∈ l → FnV Tryz.prog f [.int .i64 x] w' (fun r w'' => r = .bool (p x) ∧ Ext w' w'') fun _ _ => False) :
  Rets Tryz.prog 66 [v, f] w fun r w' => ((l.any p = true ∧ ∃ i : Nat, r = .int .i64 (i : Int)) ∨ (l.any p = false ∧ r = .int .i64 (-1))) ∧ Ext w w' := by
 refine RetsX.of (nt := 19) Tryz.func66 (by kernel_rfl) rfl rfl (by simp) (by simp only [argEnv]; rfl) ?_
 have X := ExtB.refl (fun _ => False) w
 repeat' (first | (with_reducible refine RunLN.chk ?_; refine RunLN.int (by (rfl)) ?_) | refine ZzA ?_ | refine RunL.ev Tryz.tOk rfl rfl rfl ?_ | refine RunL.evV rfl rfl rfl (OpV.lenSl Tryz.tOk rfl rfl hv) ?_ | refine ZzQ ?_ | refine ZzR ?_ | refine ZzN ?_ | refine ZzB ?_)
 refine RunE.loop (ι := Nat) (fun i => [(0, v), (1, f), (6, v), (7, .int .i64 (l.length : Int)), (8, .int .i64 (i : Int))])
  (fun i w' => i ≤ l.length ∧ (l.take i).any p = false ∧ Ext w w') (fun i => l.length - i) 0 (by repeat (first | exact Sub.nil _ | refine Sub.cons rfl ?_)) ⟨Nat.zero_le _, rfl, X⟩ ?_
 clear X
 rintro i w3 ⟨hi, ha, X⟩ again
 by_cases hlt : i < l.length
 ·obtain ⟨b, o, cap, rfl, hr, hc⟩ := isL_held hv hlt
  obtain ⟨x, hx⟩ : ∃ x, l[i]? = some x := ⟨_, List.getElem?_eq_getElem hlt⟩
  have hrx := flat_row encIn hr hx
  have ht : (l.take (i + 1)).any p = p x := by rw [List.take_add_one, hx, List.any_append, ha]; simp
  repeat' (first | (with_reducible refine RunLN.decT ?_ ?_; focus omega) | (with_reducible refine RunLN.chk ?_; refine RunLN.int (by (rfl)) ?_) | refine ZzA ?_ | refine RunL.ev Tryz.tOk rfl rfl rfl ?_ | refine RunL.evV rfl rfl rfl (OpV.load1 Tryz.tOk rfl rfl rfl ((hrx.up X) 0 _ rfl)) ?_ | refine RunL.evV rfl rfl rfl (OpV.indexS Tryz.tOk _ rfl rfl rfl rfl (by omega)) ?_ | refine ZzT rfl rfl ?_ | refine ZzQ ?_ | refine ZzR ?_ | refine ZzN ?_ | refine ZzB ?_ | refine ZzK ?_)
  refine RunL.ex rfl rfl rfl (OpE.callV rfl rfl (hf _ x X (List.mem_of_getElem? hx))) ?_
  rintro _ we_ ⟨rfl, Xe_⟩
  replace X := X.trans Xe_
  cases hp : p x with
  | true =>
   repeat' (first | (with_reducible refine RunLN.chk ?_; refine RunLN.int (by (rfl)) ?_) | refine RunL.ev Tryz.tOk rfl rfl rfl ?_ | refine ZzT rfl rfl ?_ | refine ZzQ ?_ | refine ZzR ?_ | refine ZzN ?_)
   exact RunE.retFn Tryz.func66 (.tmp rfl .nil) ⟨.inl ⟨List.any_eq_true.2 ⟨x, List.mem_of_getElem? hx, hp⟩, i, rfl⟩, X⟩
  | false =>
   rw [hp] at ht
   repeat' (first | (with_reducible refine RunLN.chk ?_; refine RunLN.int (by (first | (refine wr_i64 ?_ ?_; omega; omega) | rfl)) ?_) | refine RunL.ev Tryz.tOk rfl rfl rfl ?_ | refine ZzF rfl rfl ?_ | refine ZzR ?_ | refine ZzN ?_ | refine ZzI ?_ | refine ZzK ?_)
   exact RunE.weaken (by repeat (first | exact Sub.nil _ | refine Sub.cons rfl ?_)) (again (i + 1) _ (by omega) ⟨by omega, ht, X⟩)
 ·obtain rfl : i = l.length := by omega
  rw [List.take_length] at ha
  repeat' (first | (with_reducible refine RunLN.decF ?_ ?_; focus omega) | (with_reducible refine RunLN.chk ?_; refine RunLN.int (by (rfl)) ?_) | refine RunL.ev Tryz.tOk rfl rfl rfl ?_ | refine ZzF rfl rfl ?_ | refine ZzQ ?_ | refine ZzR ?_ | refine ZzN ?_ | refine RunE.exit rfl ?_)
  exact RunE.retFn Tryz.func66 (.tmp rfl .nil) ⟨.inr ⟨ha, rfl⟩, X⟩
theorem icontainsFunc_ok (l : List Int) (v f : Value) (p : Int → Bool) (w : World) (hv : LIn w v l) (hl : l.length < 9223372036854775808)
  (hf : ∀ (w' : World) (x : Int), Ext w w' → x ∈ l → FnV Tryz.prog f [.int .i64 x] w' (fun r w'' => r = .bool (p x) ∧ Ext w' w'') fun _ _ => False) :
  Rets Tryz.prog 37 [v, f] w fun r w' => r = .bool (l.any p) ∧ Ext w w' := by
 refine RetsX.of (nt := 9) Tryz.func37 (by kernel_rfl) rfl rfl (by simp) (by simp only [argEnv]; rfl) ?_
 repeat' (first | with_reducible refine ZzG rfl ?_ | refine ZzA ?_ | refine RunL.ev Tryz.tOk rfl rfl rfl ?_ | refine ZzQ ?_ | refine ZzR ?_ | refine ZzN ?_)
 refine RunL.call rfl rfl rfl (iindexFunc_ok l v f p w hv hl hf) ?_
 rintro _ w1 ⟨⟨ha, i, rfl⟩ | ⟨ha, rfl⟩, X⟩
 ·rw [ha]
  repeat' (first | with_reducible refine ZzP rfl ?_ | refine RunL.ev Tryz.tOk rfl rfl rfl ?_ | refine ZzN ?_)
  exact RunE.retFn Tryz.func37 (.tmp rfl .nil) ⟨rfl, X⟩
 ·rw [ha]
  repeat' (first | with_reducible refine ZzG rfl ?_ | refine RunL.ev Tryz.tOk rfl rfl rfl ?_ | refine ZzN ?_)
  exact RunE.retFn Tryz.func37 (.tmp rfl .nil) ⟨rfl, X⟩
abbrev otherV (b : Nat) : Value := .func (.func 35) #[] #[.pointer (some ⟨b, 0, none⟩)]
theorem mother_ok (p : Int) (d : Deed) (u v : Value) (b : Nat) (w : World) (hB : Blk w b (dCells d u v) 38) :
  Rets Tryz.prog 35 [.int .i64 p, .pointer (some ⟨b, 0, none⟩)] w fun r w' => r = .bool (p != d.person) ∧ Ext w w' := by
 refine RetsX.of (nt := 8) Tryz.func35 (by kernel_rfl) rfl rfl (by simp) (by simp only [argEnv]; rfl) ?_
 have X := ExtB.refl (fun _ => False) w
 cases h : (p != d.person)
 all_goals
  repeat' (first | with_reducible refine ZzP rfl ?_ | with_reducible refine ZzG rfl ?_ | refine RunLN.boolT (by assumption) ?_ | refine RunLN.boolF (by assumption) ?_ | (with_reducible refine RunLN.chk ?_; refine RunLN.int (by (rfl)) ?_) | refine ZzA ?_ | refine RunL.ev Tryz.tOk rfl rfl rfl ?_ | refine RunL.evV rfl rfl rfl (OpV.load1 Tryz.tOk rfl rfl rfl (Blk.cell hB rfl)) ?_ | refine ZzQ ?_ | refine ZzR ?_ | refine ZzN ?_)
  exact RunE.retFn Tryz.func35 (.tmp rfl .nil) ⟨rfl, X⟩
abbrev unseenV (b c : Nat) : Value := .func (.func 36) #[] #[.pointer (some ⟨b, 0, none⟩), .pointer (some ⟨c, 0, none⟩)]
set_option maxHeartbeats 2000000 in
theorem munseen_ok (g : Dg) (pre : List Deed) (m : List (List UInt8 × Value)) (R base b1 b2 b3 : Nat) (d : Deed) (u v : Value) (w : World) (hp : pre.length ≤ 4096) (hM : MDg w R m) (hB : ByOk w base m pre)
  (h1 : Blk w b1 [.map (some R)] 76) (h2 : Blk w b2 [otherV b3] 78) (h3 : Blk w b3 (dCells d u v) 38) :
  Rets Tryz.prog 36 [.agg (digC g).toArray, .pointer (some ⟨b1, 0, none⟩), .pointer (some ⟨b2, 0, none⟩)] w fun r w' => r = .bool (!metD pre d.person g) ∧ Ext w w' := by
 have hwl : (whoD pre g).length < 9223372036854775808 := by
  have : (whoD pre g).length ≤ pre.length := by unfold whoD; rw [List.length_map]; exact List.length_filter_le _ _
  omega
 have hO : LIn w ((getM g.1 m).getD nilV) (whoD pre g) := isSl_own (hB.own g)
 have hmet := who_met pre d.person g
 have hc : ∀ w', Ext w w' → Rets Tryz.prog 37 [(getM g.1 m).getD nilV, otherV b3] w' fun r w'' => r = .bool (metD pre d.person g) ∧ Ext w' w'' := fun w' X => by
  rw [← hmet]
  refine icontainsFunc_ok (whoD pre g) _ _ (fun q => q != d.person) w' (hO.up X) hwl fun w'' x X' _ => ?_
  exact RetsX.v (fi := []) (args := [.int .i64 x]) (ca := [.pointer (some ⟨b3, 0, none⟩)]) (mother_ok x d u v b3 w'' (h3.up (X.trans X')))
 clear hO hmet
 refine RetsX.of (nt := 11) Tryz.func36 (by kernel_rfl) rfl rfl (by simp) (by simp only [argEnv]; rfl) ?_
 have X := ExtB.refl (fun _ => False) w
 repeat' (first | refine ZzQ ?_ | refine ZzR ?_)
 refine RunL.box rfl rfl rfl fun B3 w3_ a_ => ?_
 have Z3 : Blk w3_ B3 (digC g) 32 := a_.at_
 have gB3 := a_.ge X
 replace X := X.trans a_.ext
 clear a_
 repeat' (first | with_reducible refine ZzG rfl ?_ | refine RunL.ev Tryz.tOk rfl rfl rfl ?_ | refine ZzQ ?_ | refine ZzN ?_)
 refine RunE.draw (fun _ => False) mix ?_
 intro wd_ Xd_
 repeat' (first | refine AsyN.any ?_ | refine Asy.ev Tryz.tOk rfl rfl rfl ?_ | refine Asy.evV rfl rfl rfl rfl (fun _ X_ => (OpV.load1 Tryz.tOk rfl rfl rfl (Blk.cell (h1.up (X.trans (Xd_.trans X_))) rfl))) ?_ | refine Asy.evV rfl rfl rfl rfl (fun _ X_ => OpV.loadN Tryz.tOk rfl rfl rfl rfl (Blk.row (Z3.up (Xd_.trans X_)))) ?_ | refine Asy.evV rfl rfl rfl rfl (fun _ X_ => (OpV.lookupDg (z := nilV) Tryz.underlying76 keyDg (by kernel_rfl) rfl rfl (hM.up (X.trans (Xd_.trans X_))))) ?_ | refine Asy.evV rfl rfl rfl rfl (fun _ X_ => (OpV.load1 Tryz.tOk rfl rfl rfl (Blk.cell (h2.up (X.trans (Xd_.trans X_))) rfl))) ?_ | refine Asy.callN rfl rfl rfl (fun _ X_ => (hc _ (X.trans (Xd_.trans X_)))) ?_)
 refine Asy.end_ (by kernel_rfl) ?_
 intro we_ Xe_
 replace X := X.trans (Xd_.trans Xe_)
 clear Xd_ Xe_
 generalize metD pre d.person g = q
 repeat' (first | refine ZzN ?_)
 exact RunE.retFn Tryz.func36 (.tmp rfl .nil) ⟨rfl, X⟩
end Go.Sg
end
