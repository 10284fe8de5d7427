/- A region whose order is drawn, in which something is stored. -/
import Derived.Test.YtpmpefkcmokoiaaDoorDa03
set_option linter.unusedSimpArgs false
set_option linter.unusedVariables false
set_option linter.unusedSectionVars false
namespace Go.Rn
open Go.RowKit
section
variable {P : Program} {c : Ctx} {k : List Item} {Q : Out → Act → World → Prop} {w0 : World} {n : Nat} {ds : List Deferred} {env : Env} {S : Nat → Prop} {sats pres : List (Nat × Pred)} {ph : Option (Option Nat × Pred)} {mu : List Bool}
variable {l : List Oper} {d : Tmp} {op : Op} {ty : TypeId} {pos : String} {after : Array Edge} {guard : Option (Nat × Bool)} {rest : List Oper}
/-- It writes and gives nothing; nothing has been written yet. -/
theorem Asy.wriN (V : World → Prop) (hw : wantE l env ⟨none, op, ty, pos, after, guard⟩ = some true) (hd : isDefer op = false) (hs : isSel op = false)
    (hV : ∀ w' w'', ExtB S w0 w' → Ext w' w'' → V w' → V w'')
    (h : ∀ w', Ext w0 w' → OpE P env w' ⟨none, op, ty, pos, after, guard⟩ (fun _ w'' => ExtB S w' w'' ∧ V w'') fun _ _ => False)
    (h' : Asy P c n ds S w0 l k Q rest ⟨env, sats, some (none, fun _ w => V w), true :: mu, pres⟩) : Asy P c n ds S w0 l k Q (⟨none, op, ty, pos, after, guard⟩ :: rest) ⟨env, sats, none, mu, pres⟩ :=
  .step (e := .wri fun _ w => V w) ⟨rfl, hs, hw, hd, fun _ => hV, fun w' ρ hx hg _ => h w' hx ρ hg.ev⟩ h'
/-- As wriN, after another that wrote and gave nothing. -/
theorem Asy.wriNN {U : Pred} (V : World → Prop) (hw : wantE l env ⟨none, op, ty, pos, after, guard⟩ = some true) (hd : isDefer op = false) (hs : isSel op = false)
    (hV : ∀ w' w'', ExtB S w0 w' → Ext w' w'' → V w' → V w'')
    (h : ∀ w' x, ExtB S w0 w' → U x w' → OpE P env w' ⟨none, op, ty, pos, after, guard⟩ (fun _ w'' => ExtB S w' w'' ∧ V w'') fun _ _ => False)
    (h' : Asy P c n ds S w0 l k Q rest ⟨env, sats, some (none, fun _ w => V w), true :: mu, pres⟩) : Asy P c n ds S w0 l k Q (⟨none, op, ty, pos, after, guard⟩ :: rest) ⟨env, sats, some (none, U), mu, pres⟩ :=
  .step (e := .wri fun _ w => V w) ⟨rfl, hs, hw, hd, fun _ => hV, fun w' ρ ⟨hx, x, hU, _⟩ hg _ => h w' x hx hU ρ hg.ev⟩ h'
/-- As wriN; it reads one value that is known by a lasting law. -/
theorem Asy.wriN1 (i : Nat) {t : Nat} {U : Pred} (V : World → Prop) (hi : sats[i]? = some (t, U)) (hl : (Oper.looksAt l.toArray ⟨none, op, ty, pos, after, guard⟩).contains t = true)
    (hw : wantE l env ⟨none, op, ty, pos, after, guard⟩ = some true) (hd : isDefer op = false) (hs : isSel op = false)
    (hV : ∀ w' w'', ExtB S w0 w' → Ext w' w'' → V w' → V w'')
    (h : ∀ w' x, Ext w0 w' → U x w' → OpE P ((t, x) :: env) w' ⟨none, op, ty, pos, after, guard⟩ (fun _ w'' => ExtB S w' w'' ∧ V w'') fun _ _ => False)
    (h' : Asy P c n ds S w0 l k Q rest ⟨env, sats, some (none, fun _ w => V w), true :: mu, pres⟩) : Asy P c n ds S w0 l k Q (⟨none, op, ty, pos, after, guard⟩ :: rest) ⟨env, sats, none, mu, pres⟩ :=
  .step (e := .wri fun _ w => V w) ⟨rfl, hs, hw, hd, fun _ => hV, fun w' ρ hx hg _ => h w' _ hx (hg.sat t U (List.mem_of_getElem? hi) (by simpa using hl)) ρ (ev_cons hg.ev rfl)⟩ h'
theorem Asy.tailN {U : Pred} (hc : chk l mu.reverse l [] = true) (h : ∀ w' x, ExtB S w0 w' → U x w' → satsAll sats w' env fun e => RunL P c n ds l.toArray rest k Q e w') :
    Asy P c n ds S w0 l k Q rest ⟨env, sats, some (none, U), mu, pres⟩ :=
  ⟨[], hc, fun w' xs hx hs hp i hi a ha => by
    obtain ⟨x, hU, -⟩ := hp
    exact satsAll_run (xs := xs) sats env hs (h w' x hx hU) i hi a (ha.sub fun t' v ht => get_swap (A := sats.map fun s => (s.1, xs s.1)) (xs := xs) (by
      intro t v hm
      obtain ⟨s, -, he⟩ := List.mem_map.1 hm
      injection he with h1 h2; subst h1; exact h2.symm) t' v ht)⟩
end
theorem OpE.store {P : Program} {w : World} {env : Env} {ty : TypeId} {pos : String} {after : Array Edge} {guard : Option (Nat × Bool)} {T : Tab} (hT : T.Ok P) {t bt : TypeId} {i : TI} {x y : Operand} {b o : Nat} {v : Value} {cs : List Value}
    (hx : evO env x = some (.pointer (some ⟨b, o, none⟩))) (hy : evO env y = some v)
    (ht : T.get t = some i) (hsz : v.cells.toList.length = i.size) (hb : Blk w b cs bt) (hlen : Nat.ble (o + v.cells.toList.length) cs.length = true) (hp : v.cells.toList.all plainV = true) :
    OpE P env w ⟨none, .store t x y, ty, pos, after, guard⟩ (fun _ w' => Turned w w' b (.cells (setAt cs o v.cells.toList).toArray bt (0, 0))) fun _ _ => False := fun ρ hρ => by
  refine ExecE.of_skip (w' := World.setObj w b (.cells (setAt cs o v.cells.toList).toArray bt (0, 0))) ?_ (turned_set w hb.lt _)
  simp only [execOp, Instr.storeAt, hρ _ _ hx, hρ _ _ hy]
  refine Eq.trans (run_bind (v := ()) (w' := World.setObj w b (.cells (setAt cs o v.cells.toList).toArray bt (0, 0))) _ _ ?_) rfl
  rw [run_bind _ _ (show (Instr.sureAddr (.pointer (some ⟨b, o, none⟩))).run P w = .ok ⟨b, o, none⟩ w from rfl)]
  obtain ⟨j, hj, hs, _⟩ := TI.info (hT.get _ _ ht)
  unfold storeVar
  rw [run_bind _ _ (run_sizeOf hj)]
  rw [if_neg (by rw [hs, ← hsz]; simp)]
  have := run_storeCells (P := P) v.cells.toList 0 cs hb (by have := Nat.le_of_ble_eq_true hlen; omega) (List.all_eq_true.1 hp)
  simpa using this
end Go.Rn
