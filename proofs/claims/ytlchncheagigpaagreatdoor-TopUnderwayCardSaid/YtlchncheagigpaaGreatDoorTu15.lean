/- Parts of this project: JudS, Jud1, Jud2. -/
import Derived.Test.YtlchncheagigpaaGreatDoorTu05
import Derived.Test.YtlchncheagigpaaGreatDoorTu07
import Derived.Test.YtlchncheagigpaaGreatDoorTu08
import Derived.Test.YtlchncheagigpaaGreatDoorTu06
import Derived.Test.YtlchncheagigpaaGreatDoorTu10
import Derived.Test.YtlchncheagigpaaGreatDoorTu11
import Derived.Test.YtlchncheagigpaaGreatDoorTu13
import Derived.Test.YtlchncheagigpaaGreatDoorTu14
import Derived.Lib.SlicesCompact
set_option maxHeartbeats 32000000
set_option linter.unusedSimpArgs false
set_option linter.unusedVariables false
set_option linter.unusedSectionVars false
section
set_option maxRecDepth 4000
namespace Go.Jud
open Go.Rn Go.Rec Go.Off Go.Dep Go.Itr Go.Bud Go.Apv Go.Doc Go.Pol Go.Und Go.Per
structure Rg where
  ap : List Ap
  au : Option Addr
  ac : Nat
  dp : List Dp
  du : Option Addr
  dc : Nat
  it : List It
  iu : Option Addr
  ic : Nat
  bg : List Bg
  bu : Option Addr
  bc : Nat
  vs : List Vs
  vu : Option Addr
  vc : Nat
  ds : List Dk
  ku : Option Addr
  kc : Nat
  av : List Av
  nu : Option Addr
  nc : Nat
abbrev Rg.cells (r : Rg) : List Value := [.slice r.au r.ap.length r.ac, .slice r.du r.dp.length r.dc, .slice r.iu r.it.length r.ic, .slice r.bu r.bg.length r.bc, .slice r.vu r.vs.length r.vc, .slice r.ku r.ds.length r.kc, .slice r.nu r.av.length r.nc]
abbrev rgV (r : Rg) : Value := .agg r.cells.toArray
structure HoldR (w : World) (N : Nat) (r : Rg) : Prop where
  ap : IsL w Ap.cells 7 (.slice r.au r.ap.length r.ac) r.ap
  dp : IsL w Dp.cells 10 (.slice r.du r.dp.length r.dc) r.dp
  it : IsL w It.cells 7 (.slice r.iu r.it.length r.ic) r.it
  bg : IsL w Bg.cells 8 (.slice r.bu r.bg.length r.bc) r.bg
  vs : IsL w Vs.cells 13 (.slice r.vu r.vs.length r.vc) r.vs
  ds : IsL w Dk.cells 41 (.slice r.ku r.ds.length r.kc) r.ds
  av : IsL w Av.cells 8 (.slice r.nu r.av.length r.nc) r.av
  hv : HoldVs w N r.vs
  hd : ∀ x ∈ r.ds, HoldD w x
  al : r.ap.length ≤ 30
  dl : r.dp.length ≤ 12
  il : r.it.length ≤ 12
  bl : r.bg.length ≤ 12
  vl : r.vs.length ≤ 5
  kl : r.ds.length ≤ 8
  nl : r.av.length ≤ 24
theorem HoldR.keep {S : Nat → Prop} {w w' : World} {N : Nat} {r : Rg} (h : HoldR w N r) (e : ExtB S w w') (hS : ∀ i, S i → w.heap.size ≤ i) : HoldR w' N r :=
  ⟨isL_keep h.ap (by decide) e hS, isL_keep h.dp (by decide) e hS, isL_keep h.it (by decide) e hS, isL_keep h.bg (by decide) e hS, isL_keep h.vs (by decide) e hS, isL_keep h.ds (by decide) e hS, isL_keep h.av (by decide) e hS,
   ⟨h.hv.few, fun x hx => (h.hv.hold x hx).ext e fun k hk => Nat.le_trans h.hv.n (hS k hk), Nat.le_trans h.hv.n e.size⟩,
   fun x hx => ⟨isL_keep (h.hd x hx).p (by decide) e hS, isL_keep (h.hd x hx).r (by decide) e hS, isL_keep (h.hd x hx).n (by decide) e hS, (h.hd x hx).pl, (h.hd x hx).rl, (h.hd x hx).nl⟩,
   h.al, h.dl, h.il, h.bl, h.vl, h.kl, h.nl⟩
theorem HoldR.up {w w' : World} {N : Nat} {r : Rg} (h : HoldR w N r) (e : Ext w w') : HoldR w' N r := h.keep e fun _ h => h.elim
abbrev docs (r : Rg) : List Dc := r.ds.map Dk.d
def chkR (r : Rg) : Bool := decide (chkA r.ap = 0) && (decide (chkD r.dp = 0) && (decide (chkI r.it = 0) && (decide (chkB r.bg = 0) && (ckAll r.vs && (decide (chkDoc (docs r) = 0) && decide (chkV r.av = 0))))))
structure OkR (r : Rg) : Prop where
  a : chkA r.ap = 0
  d : chkD r.dp = 0
  i : chkI r.it = 0
  b : chkB r.bg = 0
  v : ckAll r.vs = true
  k : chkDoc (docs r) = 0
  n : chkV r.av = 0
theorem chkR_iff {r : Rg} : chkR r = true ↔ OkR r := by
  unfold chkR
  simp only [Bool.and_eq_true, decide_eq_true_eq]
  exact ⟨fun ⟨a, b, c, d, e, f, g⟩ => ⟨a, b, c, d, e, f, g⟩, fun ⟨a, b, c, d, e, f, g⟩ => ⟨a, b, c, d, e, f, g⟩⟩
structure Ct where
  r : Rg
  d : Dk
  at_ : Int
  kn : Int
abbrev Ct.cells (c : Ct) : List Value := [.slice c.r.au c.r.ap.length c.r.ac, .slice c.r.du c.r.dp.length c.r.dc, .slice c.r.iu c.r.it.length c.r.ic, .slice c.r.bu c.r.bg.length c.r.bc, .slice c.r.vu c.r.vs.length c.r.vc, .slice c.r.ku c.r.ds.length c.r.kc, .slice c.r.nu c.r.av.length c.r.nc] ++ c.d.cells ++ [.int .i64 c.at_, .int .i64 c.kn]
abbrev ctV (c : Ct) : Value := .agg c.cells.toArray
def tmB (t : Int) : Bool := decide (0 ≤ t ∧ t < 1099511627776)
structure OkC (c : Ct) : Prop where
  r : OkR c.r
  m : c.d ∈ c.r.ds
  t : 0 ≤ c.at_ ∧ c.at_ < 1099511627776
  k : 0 ≤ c.kn ∧ c.kn < 1099511627776
def biasP (c : Ct) (p : Int) : Bool := conflictB c.at_ c.kn c.r.it p c.d.d.parties
def goodP (c : Ct) (x : Av) : Bool := (holdV c.r.ap x.office x.for_ c.at_ c.kn).2.2 && (chainB ⟨x.office, c.d.d.kind, c.d.d.value, c.at_, c.kn⟩ c.r.dp x.for_ x.by_ && (!biasP c x.for_ && !biasP c x.by_))
def thinkP (p : Po) (k : Int) : Int := match p.rules[k.toNat]? with | some r => r.think | none => 0
def goodsP (c : Ct) (p : Po) : List Av := if c.d.d.kind < (p.kinds.length : Int) then (countingA c.d.d.no c.d.d.at_ (thinkP p c.d.d.kind) c.at_ c.kn c.r.av).filter (goodP c) else []
def peopleP (c : Ct) (p : Po) : List Int := Go.Lib.compact (srtI ((goodsP c p).map Av.for_))
def holdersP (c : Ct) (p : Po) : List (List Hd) := (List.range p.offices.length).map fun (n : Nat) => (hsL c.r.ap (n : Int) c.at_ c.kn).map fun h => ⟨h.person, h.weight⟩
def permP (c : Ct) (p : Po) (who : List Int) : Bool := permB p c.d.d.kind c.d.d.value (holdersP c p) who
def revokesP (c : Ct) (sg : List Int) (d : Dc) : Bool := decide (c.d.d.no ∈ d.revokes) && (decide ((whyD (docs c.r) sg d.no c.at_).1 ≠ 1) && decide ((whyD (docs c.r) sg d.no c.at_).1 ≠ 4))
def revokedP (c : Ct) (sg : List Int) : Bool := (docs c.r).any (revokesP c sg)
def lacksP (c : Ct) (sg : List Int) : Bool := c.d.d.needs.any fun n => !decide (n ∈ forceD (docs c.r) sg c.at_)
def signedP (c : Ct) (sg : List Int) : Int := (sg[c.r.ds.findIdx fun d => decide (d.d.no = c.d.d.no)]?).getD 0
def closedP (c : Ct) (sg : List Int) : Bool := decide (c.at_ < c.d.d.at_) || (decide (c.d.d.until_ ≤ c.at_) || ((decide (0 ≤ signedP c sg) && decide (signedP c sg ≤ c.at_)) || revokedP c sg))
def polP (l : List Vs) (no : Int) : Option Vs := l.find? fun v => decide (v.no = no)
def answP (c : Ct) (no : Int) : Bool := match polP c.r.vs no with | some v => permP c v.pol (peopleP c v.pol) | none => false
def judgesP (c : Ct) : List Int := nosF c.d.d.at_ c.at_ c.kn c.r.vs
def modeP (c : Ct) : Int := modeF (metF c.d.d.at_ c.at_ c.kn c.r.vs)
def askP (c : Ct) : Bool := if modeP c = 0 then false else decB (modeP c) ((judgesP c).map (answP c))
def roomP (c : Ct) (u : List Us) : Bool := roomB c.r.bg u c.d.d.kind c.d.d.value c.at_ c.kn
def stateP (c : Ct) (sg : List Int) (u : List Us) : Int := if closedP c sg then 1 else if lacksP c sg then 2 else if !askP c then 3 else if !roomP c u then 4 else 0
def docP (r : Rg) (no : Int) : Option Dk := r.ds.find? fun d => decide (d.d.no = no)
end Go.Jud
end
section
set_option maxRecDepth 4000
namespace Go.Rn
open Go.RowKit
section
variable {P : Program} {w : World} {env : Env} {dst : Option Tmp} {ty : TypeId} {pos : String} {after : Array Edge} {guard : Option (Nat × Bool)}
theorem OpV.eqNilI {t u : TypeId} {x y : Operand} {s : TypeId} {v : Value} {ms : Array (String × TypeId)} (ht : P.underlying t = some (.interface ms)) (hx : evO env x = some (.iface s v)) (hy : evO env y = some .nilIface) :
  OpV P env w ⟨dst, .binOp .eql t x y u, ty, pos, after, guard⟩ (.bool false) := .of_run fun ρ hρ => by
 refine ⟨_, by simp only [execOp, hρ _ _ hx, hρ _ _ hy]; rfl, ?_⟩
 rw [run_bind _ _ (run_eqGuard_plain (P := P) (w := w) .eql t x y (by intro c; simp) (by simp))]
 simp only [binOp]
 have : (Op.equal t (.iface s v) .nilIface).run P w = .ok false w := by
  unfold Op.equal; rw [show Op.maxDepth = 9999 + 1 from rfl, Op.equalIn, run_bind _ _ (run_underlying ht)]; rfl
 rw [run_bind _ _ this]; rfl
theorem OpV.eqNilN {t u : TypeId} {x : Operand} {ms : Array (String × TypeId)} (ht : P.underlying t = some (.interface ms)) (hx : evO env x = some .nilIface) :
  OpV P env w ⟨dst, .binOp .eql t x (.const .nilIface) u, ty, pos, after, guard⟩ (.bool true) := .of_run fun ρ hρ => by
 refine ⟨_, by simp only [execOp, hρ _ _ hx, hρ (.const .nilIface) .nilIface rfl]; rfl, ?_⟩
 have hg : (eqGuard .eql t x (.const .nilIface) .nilIface .nilIface).run P w = .ok () w := by
  unfold eqGuard
  simp [Sem.run, Pure.pure]
 rw [run_bind _ _ hg]
 simp only [binOp]
 have : (Op.equal t .nilIface .nilIface).run P w = .ok true w := by
  unfold Op.equal; rw [show Op.maxDepth = 9999 + 1 from rfl, Op.equalIn, run_bind _ _ (run_underlying ht)]; rfl
 rw [run_bind _ _ this]; rfl
end
end Go.Rn
namespace Go.Sg
open Go.Rn Go.Proofs Go.Rec Go.RowKit Go.Jud
attribute [local irreducible] Go.Rn.RetsX Go.Rn.RunLN Go.Rn.AsyN Go.Rn.RunL Go.Rn.RunE Go.Rn.Asy Go.Rn.OpV Go.Rn.OpE Go.Rn.ExecE
instance iJud1_1 : Pf 11 [.int .i64 0] (.tuple #[]) := ⟨fun w => by
 refine en Tryz.func11 6 fun hf_ => ?_
 refine rt ?_
 exact ⟨rfl, rfl⟩⟩
theorem needX (e : Int) (w : World) : RetsX Tryz.prog 11 [.int .i64 e] w (fun v w' => e = 0 ∧ v = .tuple #[] ∧ w = w') (fun ch w' => e ≠ 0 ∧ ch = panOf 35 (.int .i64 e) ∧ w = w') := by
 refine en Tryz.func11 6 fun hf_ => ?_
 by_cases h : e = 0
 ·refine rt ?_
  exact ⟨h, rfl, rfl⟩
 ·refine g ?_
  exact RunL.panicN hf_ rfl rfl rfl ⟨h, rfl, rfl⟩
theorem jcaught_body : Body Tryz.prog 10 := ⟨_, Tryz.func10, by kernel_rfl, rfl⟩
theorem jcaught_ret (b : Nat) (w : World) : Mends Tryz.prog 10 [.pointer (some ⟨b, 0, none⟩)] .returning w fun u w' => u = .returning ∧ w' = w := by
 unfold Mends
 refine callsD_of (args := [.pointer (some ⟨b, 0, none⟩)]) Tryz.func10 rfl fun c0 cs hm => ?_
 refine RunAt.seq ?_
 refine RunAt.region ?_
 refine RunAt.recov (v := .nilIface) (cs' := c0 :: cs) rfl rfl rfl (.inr ⟨?_, rfl, rfl⟩) ?_
 ·simp [recoverD, hm]
 refine RunAt.body (i := 1) (n := 14) (ds := []) (env := [(5, .nilIface), (0, .pointer (some ⟨b, 0, none⟩))]) ((argSt (nm := Tryz.f10.ntmps) (nt := 14) (args := [.pointer (some ⟨b, 0, none⟩)]) rfl (by simp)).put (d := 5) (by decide) _) rfl ?_
 refine g ?_
 refine RunL.evV rfl rfl rfl (OpV.eqNilN Tryz.underlying20 rfl) ?_
 refine g ?_
 exact RunE.nil fun a ha => ⟨.inl rfl, ha.defers, .returning, by rw [← hm], _, (ResOk.nil (P := Tryz.prog) (w := w)).resultsRun (fn := Tryz.f10) ha, ⟨_, rfl⟩, rfl, rfl⟩
theorem jcaught_pan (b : Nat) (x e : Int) (w : World) (hb : Blk w b [.int .i64 x] 35) : Mends Tryz.prog 10 [.pointer (some ⟨b, 0, none⟩)] (.panicking (panOf 35 (.int .i64 e))) w fun u w' => u = .returning ∧ ExtB (fun k => k = b) w w' ∧ Blk w' b [.int .i64 e] 35 := by
 unfold Mends
 refine callsD_of (args := [.pointer (some ⟨b, 0, none⟩)]) Tryz.func10 rfl fun c0 cs hm => ?_
 refine RunAt.seq ?_
 refine RunAt.region ?_
 refine RunAt.recov (v := .iface 35 (.int .i64 e)) (cs' := { c0 with mode := .panicking [{ v := .iface 35 (.int .i64 e), recovered := true }] } :: cs) rfl rfl rfl (.inl ?_) ?_
 ·simp [recoverD, hm, panOf]
 refine RunAt.body (i := 1) (n := 14) (ds := []) (env := [(5, .iface 35 (.int .i64 e)), (0, .pointer (some ⟨b, 0, none⟩))]) ((argSt (nm := Tryz.f10.ntmps) (nt := 14) (args := [.pointer (some ⟨b, 0, none⟩)]) rfl (by simp)).put (d := 5) (by decide) _) rfl ?_
 refine g ?_
 refine RunL.evV rfl rfl rfl (OpV.eqNilI Tryz.underlying20 rfl rfl) ?_
 refine g ?_
 refine RunL.evV rfl rfl rfl (OpV.assertTX rfl Tryz.underlying35 rfl) ?_
 refine g ?_
 refine RunL.store Tryz.tOk rfl rfl rfl rfl rfl hb rfl rfl fun w2 t2 => ?_
 refine g ?_
 exact RunE.nil fun a ha => ⟨.inl rfl, ha.defers, _, rfl, _, (ResOk.nil (P := Tryz.prog) (w := w2)).resultsRun (fn := Tryz.f10) ha, ⟨_, rfl⟩, rfl, t2.ext, t2.at_⟩
def chkE (r : Rg) : Int := if chkR r then 0 else 300
theorem all0 {l : List Int} {i : Nat} {x : Int} (hx : l[i]? = some x) (h : (l.take i).all (fun y => decide (y = 0)) = true) (h0 : x = 0) : (l.take (i + 1)).all (fun y => decide (y = 0)) = true := by
 rw [List.take_add_one, hx, List.all_append, h]; simp [h0]
theorem jcheck_ok (r : Rg) (N : Nat) (w : World) (hR : HoldR w N r) (hK : Row w 0 0 Go.Pol.kindsC) : Rets Tryz.prog 12 [rgV r] w fun v w' => v = .int .i64 (chkE r) ∧ Ext w w' := by
 refine en Tryz.func12 35 fun hf_ => ?_
 refine g1 (cs := r.cells) fun B1 w1 E1 G1 Z1 => ?_
 have hR1 := hR.up E1
 have hK1 := hK.up E1
 have := hR.al; have := hR.vl
 have k1 := fun w' (e : Ext w1 w') => ocheck_ok r.ap _ w' (hR1.up e).ap (by omega)
 have k2 := fun w' (e : Ext w1 w') => dcheck_ok r.dp _ w' (hR1.up e).dp
 have k3 := fun w' (e : Ext w1 w') => icheck_ok r.it _ w' (hR1.up e).it
 have k4 := fun w' (e : Ext w1 w') => bcheck_ok r.bg _ w' (hR1.up e).bg
 have k5 := fun w' (e : Ext w1 w') => ckall_ok r.vs _ N w' (by omega) (hR1.up e).vs (hR1.up e).hv (hK1.up e)
 have k6 := fun w' (e : Ext w1 w') => doccheck_ok r.ds _ w' (hR1.up e).ds (hR1.up e).hd
 have k7 := fun w' (e : Ext w1 w') => acheck_ok r.av _ w' (hR1.up e).av
 have hc : ∀ e : Int, ((e = 0) ↔ Go.Pol.ckAll r.vs = true) → chkR r = [Go.Off.chkA r.ap, Go.Dep.chkD r.dp, Go.Itr.chkI r.it, Go.Bud.chkB r.bg, e, Go.Doc.chkDoc (docs r), Go.Apv.chkV r.av].all fun y => decide (y = 0) := fun e he => by
  unfold chkR
  simp only [List.all_cons, List.all_nil, Bool.and_true]
  have : Go.Pol.ckAll r.vs = decide (e = 0) := by rw [Bool.eq_iff_iff, decide_eq_true_eq]; exact he.symm
  rw [this]
 unfold chkE
 generalize Go.Off.chkA r.ap = c1 at k1 hc
 generalize Go.Dep.chkD r.dp = c2 at k2 hc
 generalize Go.Itr.chkI r.it = c3 at k3 hc
 generalize Go.Bud.chkB r.bg = c4 at k4 hc
 generalize Go.Doc.chkDoc (docs r) = c6 at k6 hc
 generalize Go.Apv.chkV r.av = c7 at k7 hc
 refine RunE.draw (fun _ => False) mix' ?_
 intro wd Xd
 refine ga ?_
 refine Asy.callN rfl rfl rfl (fun w' e => k1 w' (Xd.trans e)) ?_
 refine ga ?_
 refine Asy.callN rfl rfl rfl (fun w' e => k2 w' (Xd.trans e)) ?_
 refine ga ?_
 refine Asy.callN rfl rfl rfl (fun w' e => k3 w' (Xd.trans e)) ?_
 refine ga ?_
 refine Asy.callN rfl rfl rfl (fun w' e => k4 w' (Xd.trans e)) ?_
 refine ga ?_
 refine Asy.sat0 (fun a _ => ∃ e : Int, a = .int .i64 e ∧ ((e = 0) ↔ Go.Pol.ckAll r.vs = true)) rfl rfl rfl rfl (fun a w' w'' _ e h => h) (fun w' e => ?_) ?_
 ·refine OpE.mono (OpE.call rfl (k5 w' (Xd.trans e))) ?_ fun _ _ h => h
  rintro a w'' ⟨h1, h2⟩; exact ⟨h2, h1⟩
 refine ga ?_
 refine Asy.callN rfl rfl rfl (fun w' e => k6 w' (Xd.trans e)) ?_
 refine ga ?_
 refine Asy.callN rfl rfl rfl (fun w' e => k7 w' (Xd.trans e)) ?_
 refine ga ?_
 refine Asy.sat1 0 (fun a w' => ∃ (e : Int) (B : Nat), a = .slice (some ⟨B, 0, none⟩) 7 7 ∧ ((e = 0) ↔ Go.Pol.ckAll r.vs = true) ∧ Blk w' B [.int .i64 c1, .int .i64 c2, .int .i64 c3, .int .i64 c4, .int .i64 e, .int .i64 c6, .int .i64 c7] 35) rfl rfl rfl rfl rfl rfl (fun a w' w'' _ e h => ?_) (fun w' x e hx => ?_) ?_
 ·obtain ⟨e1, B, h1, h2, h3⟩ := h; exact ⟨e1, B, h1, h2, h3.up e⟩
 ·obtain ⟨e1, rfl, he⟩ := hx
  refine OpE.mono (OpE.buildSl Tryz.tOk [.int .i64 c1, .int .i64 c2, .int .i64 c3, .int .i64 c4, .int .i64 e1, .int .i64 c6, .int .i64 c7] rfl rfl rfl rfl rfl rfl (by simp [Value.cells])) ?_ fun _ _ h => h
  rintro _ w'' ⟨B, rfl, a⟩
  exact ⟨a.ext, e1, B, rfl, he, a.at_⟩
 refine Asy.val1 (v := .int .i64 7) 0 rfl rfl rfl rfl rfl rfl (fun w' x e hx => ?_) ?_
 ·obtain ⟨e1, B, rfl, he, hB⟩ := hx
  refine OpE.mono (OpV.e (OpV.lenV Tryz.tOk rfl rfl rfl)) ?_ fun _ _ h => h
  rintro _ _ ⟨rfl, rfl⟩; exact ⟨rfl, ExtB.refl _ _⟩
 refine ga ?_
 refine Asy.tail (by decide +kernel) fun we Xe => ?_
 simp only [satsAll]
 rintro _ ⟨e, B, rfl, he, ZB⟩ x1 -
 rw [hc e he]
 have hv : IsL we intC 1 (.slice (some ⟨B, 0, none⟩) 7 7) [c1, c2, c3, c4, e, c6, c7] := isSl_blk (n := 7) (cap := 7) (sz := 1) ZB (fun i v h => by rw [Nat.zero_add]; exact h) rfl (Nat.le_refl 7)
 clear hc he
 have X4 : Ext w we := ((E1.trans Xd).trans Xe)
 generalize hl : [c1, c2, c3, c4, e, c6, c7] = l at hv ⊢
 clear ZB
 have hlen : l.length = 7 := by rw [← hl]; rfl
 refine g ?_
 refine rangeL hv encI 26 27 28 (fun _ : Unit => []) (fun i _ w' => (l.take i).all (fun y => decide (y = 0)) = true ∧ Ext we w') () (by rw [hlen]; exact sb_) ⟨rfl, ExtB.refl _ _⟩ ?_ ?_
 ·rintro i ⟨⟩ x w5 hx ⟨ha, X5⟩ b o cap hve hrx hlt again
  rw [hve] at again ⊢
  by_cases h0 : x = 0
  ·refine g ?_
   exact RunE.weaken sb_ (again () w5 ⟨all0 hx ha h0, X5⟩)
  ·have : l.all (fun y => decide (y = 0)) = false := by
    rw [List.all_eq_false]
    exact ⟨x, List.mem_of_getElem? hx, by simpa using h0⟩
   rw [this]
   refine rt ?_
   exact ⟨rfl, X4.trans X5⟩
 ·rintro ⟨⟩ w5 ⟨ha, X5⟩
  rw [List.take_length] at ha
  rw [ha]
  refine rt ?_
  exact ⟨rfl, X4.trans X5⟩
end Go.Sg
end
section
set_option maxRecDepth 4000
namespace Go.Jud
open Go.Rn Go.Rec Go.Doc Go.Pol
theorem idxFrom_find {α : Type} (p : α → Bool) : ∀ (l : List α) (i : Int), (l.find? p = none ∧ Go.Rn.idxFrom p i l = -1) ∨ ∃ (k : Nat) (x : α), l.find? p = some x ∧ l[k]? = some x ∧ p x = true ∧ Go.Rn.idxFrom p i l = i + (k : Int) ∧ l.findIdx p = k
 | [], i => .inl ⟨rfl, rfl⟩
 | x :: r, i => by
  cases hp : p x with
  | true => exact .inr ⟨0, x, by simp [hp], rfl, hp, by simp [Go.Rn.idxFrom, hp], by simp [List.findIdx_cons, hp]⟩
  | false =>
   rcases idxFrom_find p r (i + 1) with ⟨h1, h2⟩ | ⟨k, y, h1, h2, h3, h4, h5⟩
   ·exact .inl ⟨by simp [hp, h1], by simp [Go.Rn.idxFrom, hp, h2]⟩
   ·exact .inr ⟨k + 1, y, by simp [hp, h1], by simpa using h2, h3, by simp only [Go.Rn.idxFrom, hp, Bool.false_eq_true, if_false, h4]; omega, by simp [List.findIdx_cons, hp, h5]⟩
theorem idxF_find {α : Type} (p : α → Bool) (l : List α) : (l.find? p = none ∧ Go.Rn.idxF p l = -1) ∨ ∃ (k : Nat) (x : α), l.find? p = some x ∧ l[k]? = some x ∧ p x = true ∧ Go.Rn.idxF p l = (k : Int) ∧ l.findIdx p = k := by
 rcases idxFrom_find p l 0 with h | ⟨k, x, h1, h2, h3, h4, h5⟩
 ·exact .inl h
 ·exact .inr ⟨k, x, h1, h2, h3, by unfold Go.Rn.idxF; omega, h5⟩
end Go.Jud
namespace Go.Sg
open Go.Rn Go.Proofs Go.Rec Go.RowKit Go.Jud Go.Doc Go.Pol Go.Itr Go.Best
attribute [local irreducible] Go.Rn.RetsX Go.Rn.RunLN Go.Rn.AsyN Go.Rn.RunL Go.Rn.RunE Go.Rn.Asy Go.Rn.OpV Go.Rn.OpE Go.Rn.ExecE
theorem jkidx_ok (l : List Dk) (p : Dk → Bool) (v f : Value) (w : World) (hl : l.length ≤ 100000) (hv : IsL w Dk.cells 41 v l) (hf : ∀ x ∈ l, ∀ w', Ext w w' → FnV Tryz.prog f [dkV x] w' (fun r w'' => r = .bool (p x) ∧ Ext w' w'') fun _ _ => False) :
  Rets Tryz.prog 44 [v, f] w fun r w' => r = .int .i64 (idxF p l) ∧ Ext w w' := by
 obtain ⟨d, cp, rfl⟩ := isSl_slice hv
 refine en Tryz.func44 19 fun hf_ => ?_
 refine g ?_
 refine rangeL hv encDk 6 7 8 (fun _ : Unit => [(0, .slice d l.length cp), (1, f)]) (fun i _ w' => idxF p l = idxFrom p (i : Int) (l.drop i) ∧ Ext w w') () sb_ ⟨by simp [idxF], ExtB.refl _ _⟩ ?_ ?_
 ·rintro i ⟨⟩ x w1 hx ⟨h1, X⟩ b o cap hve hrx hlt again
  cases hve
  have hd : l.drop i = x :: l.drop (i + 1) := by
   obtain ⟨hi, e⟩ := List.getElem?_eq_some_iff.1 hx
   rw [List.drop_eq_getElem_cons hi, e]
  rw [hd] at h1
  simp only [idxFrom] at h1
  refine g ?_
  refine RunL.ex rfl rfl rfl (OpE.callV rfl rfl (hf x (List.mem_of_getElem? hx) w1 X)) ?_
  rintro _ w2 ⟨rfl, E2⟩
  cases hp : p x with
  | true =>
   rw [hp, if_pos rfl] at h1
   refine rt ?_
   exact ⟨by rw [h1]; rfl, xt⟩
  | false =>
   rw [hp, if_neg (by simp)] at h1
   refine g ?_
   exact RunE.weaken sb_ (again () w2 ⟨by rw [h1]; simp, xt⟩)
 ·rintro ⟨⟩ w1 ⟨h1, X⟩
  rw [List.drop_length] at h1
  refine rt ?_
  exact ⟨by rw [h1]; rfl, X⟩
theorem jkcon_ok (l : List Dk) (p : Dk → Bool) (v f : Value) (w : World) (hl : l.length ≤ 100000) (hv : IsL w Dk.cells 41 v l) (hf : ∀ x ∈ l, ∀ w', Ext w w' → FnV Tryz.prog f [dkV x] w' (fun r w'' => r = .bool (p x) ∧ Ext w' w'') fun _ _ => False) :
  Rets Tryz.prog 80 [v, f] w fun r w' => r = .bool (l.any p) ∧ Ext w w' := by
 refine en Tryz.func80 9 fun hf_ => ?_
 refine gc (jkidx_ok l p v f w hl hv hf) ?_
 rintro _ w1 ⟨rfl, E1⟩
 have hr := idxF_any p l
 refine rt ?_
 exact ⟨by rw [← hr]; rfl, xt⟩
theorem jvidx_ok (l : List Vs) (p : Vs → Bool) (v f : Value) (w : World) (hl : l.length ≤ 100000) (hv : IsL w Vs.cells 13 v l) (hf : ∀ x ∈ l, ∀ w', Ext w w' → FnV Tryz.prog f [vsV x] w' (fun r w'' => r = .bool (p x) ∧ Ext w' w'') fun _ _ => False) :
  Rets Tryz.prog 85 [v, f] w fun r w' => r = .int .i64 (idxF p l) ∧ Ext w w' := by
 obtain ⟨d, cp, rfl⟩ := isSl_slice hv
 refine en Tryz.func85 19 fun hf_ => ?_
 refine g ?_
 refine rangeL hv encVs 6 7 8 (fun _ : Unit => [(0, .slice d l.length cp), (1, f)]) (fun i _ w' => idxF p l = idxFrom p (i : Int) (l.drop i) ∧ Ext w w') () sb_ ⟨by simp [idxF], ExtB.refl _ _⟩ ?_ ?_
 ·rintro i ⟨⟩ x w1 hx ⟨h1, X⟩ b o cap hve hrx hlt again
  cases hve
  have hd : l.drop i = x :: l.drop (i + 1) := by
   obtain ⟨hi, e⟩ := List.getElem?_eq_some_iff.1 hx
   rw [List.drop_eq_getElem_cons hi, e]
  rw [hd] at h1
  simp only [idxFrom] at h1
  refine g ?_
  refine RunL.ex rfl rfl rfl (OpE.callV rfl rfl (hf x (List.mem_of_getElem? hx) w1 X)) ?_
  rintro _ w2 ⟨rfl, E2⟩
  cases hp : p x with
  | true =>
   rw [hp, if_pos rfl] at h1
   refine rt ?_
   exact ⟨by rw [h1]; rfl, xt⟩
  | false =>
   rw [hp, if_neg (by simp)] at h1
   refine g ?_
   exact RunE.weaken sb_ (again () w2 ⟨by rw [h1]; simp, xt⟩)
 ·rintro ⟨⟩ w1 ⟨h1, X⟩
  rw [List.drop_length] at h1
  refine rt ?_
  exact ⟨by rw [h1]; rfl, X⟩
theorem build_st {T : Tab} {t : TypeId} {fs : List (Nat × Nat × Bool)} {sz b : Nat} {z : List Value} {a u : Bool} {env : Env} {parts : Array (Nat × Operand)} {ps : List (Nat × Value)} {l : List Value} (ht : T.get t = some ⟨.st fs, sz, b, z, a, u⟩) (hp : evParts env parts.toList = some ps)
  (hf : fillL (fun i => (fs[i]?).map fun (o, s, _) => (o, s)) z ps = some l) : evalOp T env (.build t parts) = some (.agg l.toArray) := by
 unfold evalOp
 simp only [ht, hp, hf, force_eq]
theorem build_court {env : Env} {x0 x1 x2 x3 : Operand} (r : Rg) (d : Dk) (t kn : Int) (h0 : evO env x0 = some (rgV r)) (h1 : evO env x1 = some (dkV d)) (h2 : evO env x2 = some (.int .i64 t)) (h3 : evO env x3 = some (.int .i64 kn)) :
  evalOp Tryz.T env (.build 60 #[(0, x0), (1, x1), (2, x2), (3, x3)]) = some (ctV ⟨r, d, t, kn⟩) := by
 have e1 : evParts env [(0, x0), (1, x1), (2, x2), (3, x3)] = some [(0, rgV r), (1, dkV d), (2, .int .i64 t), (3, .int .i64 kn)] := by
  simp only [evParts, h0, h1, h2, h3]
 exact build_st rfl e1 (by kernel_rfl)
theorem open1_ok (x : Dk) (no : Int) (b : Nat) (w : World) (Y : Blk w b [.int .i64 no] 3) : Rets Tryz.prog 45 [dkV x, .pointer (some ⟨b, 0, none⟩)] w fun r w' => r = .bool (decide (x.d.no = no)) ∧ Ext w w' := by
 refine en Tryz.func45 8 fun hf_ => ?_
 refine g1 (cs := x.cells) fun B2 w1 E1 G1 Z1 => ?_
 by_cases h : x.d.no = no
 ·rw [decide_eq_true h]
  refine rt ?_
  exact ⟨rfl, xt⟩
 ·rw [decide_eq_false h]
  refine rt ?_
  exact ⟨rfl, xt⟩
theorem open_ok (r : Rg) (N : Nat) (no t kn : Int) (w : World) (hR : HoldR w N r) : RetsX Tryz.prog 15 [rgV r, .int .i64 no, .int .i64 t, .int .i64 kn] w
  (fun v w' => (∃ d, docP r no = some d ∧ tmB t = true ∧ tmB kn = true ∧ v = ctV ⟨r, d, t, kn⟩) ∧ Ext w w')
  (fun ch w' => (((docP r no).isSome && (tmB t && tmB kn)) = false ∧ ch = panOf 35 (.int .i64 1)) ∧ Ext w w') := by
 refine en Tryz.func15 38 fun hf_ => ?_
 refine g1 (cs := r.cells) fun B4 w1 E1 G1 Z1 => ?_
 refine g1 (cs := [.int .i64 no]) fun B5 w2 E2 G2 Z2 => ?_
 refine g ?_
 refine RunL.alloc Tryz.tOk rfl rfl rfl fun B8 w3 a8 => ?_
 have E3 := a8.ext
 have n8 := a8.eq
 have Z8 : Blk w3 B8 _ 60 := a8.at_
 clear a8
 have X3 : Ext w w3 := (E1.trans E2).trans E3
 have hR3 := hR.up X3
 have hl := hR.kl
 have s2 := (E1.trans E2).size
 refine g ?_
 refine gc (jkidx_ok r.ds (fun d => decide (d.d.no = no)) _ (.func (.func 45) #[] #[.pointer (some ⟨B5, 0, none⟩)]) w3 (by omega) hR3.ds fun x hx w' e => RetsX.v (fi := []) (args := [dkV x]) (ca := [.pointer (some ⟨B5, 0, none⟩)]) (open1_ok x no B5 w' (Z2.up (E3.trans e)))) ?_
 rintro _ w4 ⟨rfl, E4⟩
 have X4 : Ext w w4 := X3.trans E4
 have hR4 := hR.up X4
 unfold docP tmB
 rcases idxF_find (fun d : Dk => decide (d.d.no = no)) r.ds with ⟨h1, h2⟩ | ⟨k, d, h1, h2, h3, h4, -⟩
 ·rw [h1, h2]
  refine g ?_
  exact RunL.panicN hf_ rfl rfl rfl ⟨⟨rfl, rfl⟩, X4⟩
 rw [h1, h4]
 have hk := (List.getElem?_eq_some_iff.1 h2).1
 by_cases c1 : 0 ≤ t
 case neg =>
  refine g ?_
  refine RunL.panicN hf_ rfl rfl rfl ⟨⟨?_, rfl⟩, X4⟩
  rw [decide_eq_false (p := 0 ≤ t ∧ t < 1099511627776) (fun h => c1 h.1)]; rfl
 by_cases c2 : 0 ≤ kn
 case neg =>
  refine g ?_
  refine RunL.panicN hf_ rfl rfl rfl ⟨⟨?_, rfl⟩, X4⟩
  rw [decide_eq_false (p := 0 ≤ kn ∧ kn < 1099511627776) (fun h => c2 h.1)]; simp
 by_cases c3 : t < 1099511627776
 case neg =>
  refine g ?_
  refine RunL.panicN hf_ rfl rfl rfl ⟨⟨?_, rfl⟩, X4⟩
  rw [decide_eq_false (p := 0 ≤ t ∧ t < 1099511627776) (fun h => c3 h.2)]; rfl
 by_cases c4 : kn < 1099511627776
 case neg =>
  refine g ?_
  refine RunL.panicN hf_ rfl rfl rfl ⟨⟨?_, rfl⟩, X4⟩
  rw [decide_eq_false (p := 0 ≤ kn ∧ kn < 1099511627776) (fun h => c4 h.2)]; simp
 obtain ⟨b, o, cap, hve, hr, -⟩ := isL_held hR4.ds hk
 have hrx := flat_row encDk hr h2
 have hlk : r.ds.length = r.ds.length := rfl
 have Z14 := Z1.up ((E2.trans E3).trans E4)
 have Z84 := Z8.up E4
 obtain ⟨hu, -⟩ : r.ku = some ⟨b, o, none⟩ ∧ r.kc = cap := by
  injection hve with q1 q2 q3
  exact ⟨q1, q3⟩
 refine g ?_
 refine RunE.draw (fun _ => False) mix' ?_
 intro wd Xd
 rw [show Rg.cells r = [.slice r.au r.ap.length r.ac, .slice r.du r.dp.length r.dc, .slice r.iu r.it.length r.ic, .slice r.bu r.bg.length r.bc, .slice r.vu r.vs.length r.vc, .slice (some ⟨b, o, none⟩) r.ds.length r.kc, .slice r.nu r.av.length r.nc] from by rw [← hu]] at Z14
 have hrg : rgV r = .agg [.slice r.au r.ap.length r.ac, .slice r.du r.dp.length r.dc, .slice r.iu r.it.length r.ic, .slice r.bu r.bg.length r.bc, .slice r.vu r.vs.length r.vc, .slice (some ⟨b, o, none⟩) r.ds.length r.kc, .slice r.nu r.av.length r.nc].toArray := by rw [← hu]
 iterate 16 (first | ((with_reducible refine Go.Rn.AsyN.id ?_); first | with_reducible refine Go.Rn.AsyN.boolT rfl ?_ | with_reducible refine Go.Rn.AsyN.boolF rfl ?_ | (with_reducible refine Go.Rn.AsyN.chk ?_; refine Go.Rn.AsyN.int (by (first | (refine Go.Rn.wr_i64 ?_ ?_; omega; omega) | (refine Go.Rn.wm_i64 ?_; omega) | (refine Go.Rn.wq_i64 ?_ ?_ ?_; omega; omega; omega) | rfl)) ?_) | with_reducible refine Go.Rn.AsyN.anyX rfl ?_ | refine Go.Rn.AsyN.boolT (by assumption) ?_ | refine Go.Rn.AsyN.boolF (by assumption) ?_ | with_reducible refine Go.Rn.AsyN.eqT rfl ?_ | with_reducible refine Go.Rn.AsyN.neF rfl ?_ | (with_reducible refine Go.Rn.AsyN.decT ?_ ?_; focus omega) | (with_reducible refine Go.Rn.AsyN.decF ?_ ?_; focus omega) | (with_reducible refine Go.Rn.AsyN.eqT ?_ ?_; focus omega) | (with_reducible refine Go.Rn.AsyN.eqF ?_ ?_; focus omega) | (with_reducible refine Go.Rn.AsyN.neT ?_ ?_; focus omega) | (with_reducible refine Go.Rn.AsyN.neF ?_ ?_; focus omega) | refine Go.Rn.AsyN.boolT (by exact rfl) ?_ | refine Go.Rn.AsyN.boolF (by exact rfl) ?_ | ((fail_if_success refine Go.Rn.AsyN.isB ?_); refine Go.Rn.AsyN.any ?_)) | ((with_reducible refine Go.Rn.Asy.id ?_); first | refine Go.Rn.Asy.ev Tryz.tOk rfl rfl rfl ?_ | refine Go.Rn.Asy.unwantedD rfl rfl rfl ?_ | refine Go.Rn.Asy.evV rfl rfl rfl rfl (fun _ X_ => Go.Rn.OpV.load1 Tryz.tOk rfl rfl rfl (Go.Sg.ldS (by assumption) (by exact rfl) X_)) ?_ | refine Go.Rn.Asy.evV rfl rfl rfl rfl (fun _ X_ => Go.Rn.OpV.loadQ Tryz.tOk rfl rfl rfl (Go.Sg.ldNS (by assumption) X_) (by exact rfl)) ?_ | refine Go.Rn.Asy.evV rfl rfl rfl rfl (fun _ X_ => Go.Sg.lk1S rfl rfl (by assumption) X_ (by infer_instance) (by infer_instance)) ?_ | refine Go.Rn.Asy.evV rfl rfl rfl rfl (fun _ X_ => Go.Rn.OpV.load1 Tryz.tOk rfl rfl rfl (Go.Sg.ldB (by assumption) (by exact rfl) (by (first | ((repeat (first | exact Go.Rn.ExtB.refl _ _ | assumption | refine Go.Rn.ExtB.trans (by assumption) ?_)) <;> fail) | fail)))) ?_ | refine Go.Sg.pfA rfl rfl rfl ?_ | refine Go.Sg.pfX rfl rfl rfl ?_ | refine Go.Sg.pvA rfl rfl rfl rfl rfl (by infer_instance) ?_ | refine Go.Rn.Asy.evV rfl rfl rfl rfl (fun _ X_ => Go.Sg.eqf rfl rfl (by infer_instance)) ?_ | refine Go.Rn.Asy.evV rfl rfl rfl rfl (fun _ X_ => Go.Rn.OpV.loadQ Tryz.tOk rfl rfl rfl (Go.Sg.ldN (by assumption) (by (first | ((repeat (first | exact Go.Rn.ExtB.refl _ _ | assumption | refine Go.Rn.ExtB.trans (by assumption) ?_)) <;> fail) | fail))) (by exact rfl)) ?_ | refine Go.Rn.Asy.evV rfl rfl rfl rfl (fun _ X_ => Go.Rn.OpV.load1 Tryz.tOk rfl rfl rfl (Go.Sg.ldR0 (by assumption) (by (first | ((repeat (first | exact Go.Rn.ExtB.refl _ _ | assumption | refine Go.Rn.ExtB.trans (by assumption) ?_)) <;> fail) | fail)))) ?_ | refine Go.Rn.Asy.evV rfl rfl rfl rfl (fun _ X_ => Go.Rn.OpV.load1 Tryz.tOk rfl rfl rfl (Go.Sg.ldR (by assumption) (by exact rfl) (by (first | ((repeat (first | exact Go.Rn.ExtB.refl _ _ | assumption | refine Go.Rn.ExtB.trans (by assumption) ?_)) <;> fail) | fail)))) ?_ | refine Go.Rn.Asy.evV rfl rfl rfl rfl (fun _ X_ => Go.Rn.OpV.loadQ Tryz.tOk rfl rfl rfl (Go.Sg.ldRN (by assumption) (by (first | ((repeat (first | exact Go.Rn.ExtB.refl _ _ | assumption | refine Go.Rn.ExtB.trans (by assumption) ?_)) <;> fail) | fail))) (by exact rfl)) ?_ | refine Go.Rn.Asy.evV rfl rfl rfl rfl (fun _ X_ => Go.Rn.OpV.lenSl Tryz.tOk rfl rfl (by assumption)) ?_ | refine Go.Rn.Asy.evV rfl rfl rfl rfl (fun _ X_ => Go.Rn.OpV.indexS Tryz.tOk _ rfl rfl rfl rfl (by omega)) ?_ | refine Go.Rn.Asy.evV rfl rfl rfl rfl (fun _ X_ => Go.Sg.lk2s rfl rfl (by assumption) (by (first | ((repeat (first | exact Go.Rn.ExtB.refl _ _ | assumption | refine Go.Rn.ExtB.trans (by assumption) ?_)) <;> fail) | fail)) (by infer_instance) (by infer_instance) (by assumption)) ?_ | refine Go.Rn.Asy.evV rfl rfl rfl rfl (fun _ X_ => Go.Sg.lk2n rfl rfl (by assumption) (by (first | ((repeat (first | exact Go.Rn.ExtB.refl _ _ | assumption | refine Go.Rn.ExtB.trans (by assumption) ?_)) <;> fail) | fail)) (by infer_instance) (by infer_instance) (by assumption)) ?_ | refine Go.Rn.Asy.evV rfl rfl rfl rfl (fun _ X_ => Go.Sg.lk2 rfl rfl (by assumption) (by (first | ((repeat (first | exact Go.Rn.ExtB.refl _ _ | assumption | refine Go.Rn.ExtB.trans (by assumption) ?_)) <;> fail) | fail)) (by infer_instance) (by infer_instance)) ?_ | refine Go.Rn.Asy.evV rfl rfl rfl rfl (fun _ X_ => Go.Sg.lk1s rfl rfl (by assumption) (by (first | ((repeat (first | exact Go.Rn.ExtB.refl _ _ | assumption | refine Go.Rn.ExtB.trans (by assumption) ?_)) <;> fail) | fail)) (by infer_instance) (by infer_instance) (by assumption)) ?_ | refine Go.Rn.Asy.evV rfl rfl rfl rfl (fun _ X_ => Go.Sg.lk1n rfl rfl (by assumption) (by (first | ((repeat (first | exact Go.Rn.ExtB.refl _ _ | assumption | refine Go.Rn.ExtB.trans (by assumption) ?_)) <;> fail) | fail)) (by infer_instance) (by infer_instance) (by assumption)) ?_ | refine Go.Rn.Asy.evV rfl rfl rfl rfl (fun _ X_ => Go.Sg.lk1 rfl rfl (by assumption) (by (first | ((repeat (first | exact Go.Rn.ExtB.refl _ _ | assumption | refine Go.Rn.ExtB.trans (by assumption) ?_)) <;> fail) | fail)) (by infer_instance) (by infer_instance)) ?_ | refine Go.Rn.Asy.evV rfl rfl rfl rfl (fun _ X_ => Go.Rn.OpV.quo Tryz.tOk rfl rfl (by omega) (by omega) (by omega)) ?_))
 refine Asy.ev Tryz.tOk rfl rfl (build_court r d t kn (by rw [hrg]; rfl) rfl rfl rfl) ?_
 iterate 1 (first | ((with_reducible refine Go.Rn.AsyN.id ?_); first | with_reducible refine Go.Rn.AsyN.boolT rfl ?_ | with_reducible refine Go.Rn.AsyN.boolF rfl ?_ | (with_reducible refine Go.Rn.AsyN.chk ?_; refine Go.Rn.AsyN.int (by (first | (refine Go.Rn.wr_i64 ?_ ?_; omega; omega) | (refine Go.Rn.wm_i64 ?_; omega) | (refine Go.Rn.wq_i64 ?_ ?_ ?_; omega; omega; omega) | rfl)) ?_) | with_reducible refine Go.Rn.AsyN.anyX rfl ?_ | refine Go.Rn.AsyN.boolT (by assumption) ?_ | refine Go.Rn.AsyN.boolF (by assumption) ?_ | with_reducible refine Go.Rn.AsyN.eqT rfl ?_ | with_reducible refine Go.Rn.AsyN.neF rfl ?_ | (with_reducible refine Go.Rn.AsyN.decT ?_ ?_; focus omega) | (with_reducible refine Go.Rn.AsyN.decF ?_ ?_; focus omega) | (with_reducible refine Go.Rn.AsyN.eqT ?_ ?_; focus omega) | (with_reducible refine Go.Rn.AsyN.eqF ?_ ?_; focus omega) | (with_reducible refine Go.Rn.AsyN.neT ?_ ?_; focus omega) | (with_reducible refine Go.Rn.AsyN.neF ?_ ?_; focus omega) | refine Go.Rn.AsyN.boolT (by exact rfl) ?_ | refine Go.Rn.AsyN.boolF (by exact rfl) ?_ | ((fail_if_success refine Go.Rn.AsyN.isB ?_); refine Go.Rn.AsyN.any ?_)) | ((with_reducible refine Go.Rn.Asy.id ?_); first | refine Go.Rn.Asy.ev Tryz.tOk rfl rfl rfl ?_ | refine Go.Rn.Asy.unwantedD rfl rfl rfl ?_ | refine Go.Rn.Asy.evV rfl rfl rfl rfl (fun _ X_ => Go.Rn.OpV.load1 Tryz.tOk rfl rfl rfl (Go.Sg.ldS (by assumption) (by exact rfl) X_)) ?_ | refine Go.Rn.Asy.evV rfl rfl rfl rfl (fun _ X_ => Go.Rn.OpV.loadQ Tryz.tOk rfl rfl rfl (Go.Sg.ldNS (by assumption) X_) (by exact rfl)) ?_ | refine Go.Rn.Asy.evV rfl rfl rfl rfl (fun _ X_ => Go.Sg.lk1S rfl rfl (by assumption) X_ (by infer_instance) (by infer_instance)) ?_ | refine Go.Rn.Asy.evV rfl rfl rfl rfl (fun _ X_ => Go.Rn.OpV.load1 Tryz.tOk rfl rfl rfl (Go.Sg.ldB (by assumption) (by exact rfl) (by (first | ((repeat (first | exact Go.Rn.ExtB.refl _ _ | assumption | refine Go.Rn.ExtB.trans (by assumption) ?_)) <;> fail) | fail)))) ?_ | refine Go.Sg.pfA rfl rfl rfl ?_ | refine Go.Sg.pfX rfl rfl rfl ?_ | refine Go.Sg.pvA rfl rfl rfl rfl rfl (by infer_instance) ?_ | refine Go.Rn.Asy.evV rfl rfl rfl rfl (fun _ X_ => Go.Sg.eqf rfl rfl (by infer_instance)) ?_ | refine Go.Rn.Asy.evV rfl rfl rfl rfl (fun _ X_ => Go.Rn.OpV.loadQ Tryz.tOk rfl rfl rfl (Go.Sg.ldN (by assumption) (by (first | ((repeat (first | exact Go.Rn.ExtB.refl _ _ | assumption | refine Go.Rn.ExtB.trans (by assumption) ?_)) <;> fail) | fail))) (by exact rfl)) ?_ | refine Go.Rn.Asy.evV rfl rfl rfl rfl (fun _ X_ => Go.Rn.OpV.load1 Tryz.tOk rfl rfl rfl (Go.Sg.ldR0 (by assumption) (by (first | ((repeat (first | exact Go.Rn.ExtB.refl _ _ | assumption | refine Go.Rn.ExtB.trans (by assumption) ?_)) <;> fail) | fail)))) ?_ | refine Go.Rn.Asy.evV rfl rfl rfl rfl (fun _ X_ => Go.Rn.OpV.load1 Tryz.tOk rfl rfl rfl (Go.Sg.ldR (by assumption) (by exact rfl) (by (first | ((repeat (first | exact Go.Rn.ExtB.refl _ _ | assumption | refine Go.Rn.ExtB.trans (by assumption) ?_)) <;> fail) | fail)))) ?_ | refine Go.Rn.Asy.evV rfl rfl rfl rfl (fun _ X_ => Go.Rn.OpV.loadQ Tryz.tOk rfl rfl rfl (Go.Sg.ldRN (by assumption) (by (first | ((repeat (first | exact Go.Rn.ExtB.refl _ _ | assumption | refine Go.Rn.ExtB.trans (by assumption) ?_)) <;> fail) | fail))) (by exact rfl)) ?_ | refine Go.Rn.Asy.evV rfl rfl rfl rfl (fun _ X_ => Go.Rn.OpV.lenSl Tryz.tOk rfl rfl (by assumption)) ?_ | refine Go.Rn.Asy.evV rfl rfl rfl rfl (fun _ X_ => Go.Rn.OpV.indexS Tryz.tOk _ rfl rfl rfl rfl (by omega)) ?_ | refine Go.Rn.Asy.evV rfl rfl rfl rfl (fun _ X_ => Go.Sg.lk2s rfl rfl (by assumption) (by (first | ((repeat (first | exact Go.Rn.ExtB.refl _ _ | assumption | refine Go.Rn.ExtB.trans (by assumption) ?_)) <;> fail) | fail)) (by infer_instance) (by infer_instance) (by assumption)) ?_ | refine Go.Rn.Asy.evV rfl rfl rfl rfl (fun _ X_ => Go.Sg.lk2n rfl rfl (by assumption) (by (first | ((repeat (first | exact Go.Rn.ExtB.refl _ _ | assumption | refine Go.Rn.ExtB.trans (by assumption) ?_)) <;> fail) | fail)) (by infer_instance) (by infer_instance) (by assumption)) ?_ | refine Go.Rn.Asy.evV rfl rfl rfl rfl (fun _ X_ => Go.Sg.lk2 rfl rfl (by assumption) (by (first | ((repeat (first | exact Go.Rn.ExtB.refl _ _ | assumption | refine Go.Rn.ExtB.trans (by assumption) ?_)) <;> fail) | fail)) (by infer_instance) (by infer_instance)) ?_ | refine Go.Rn.Asy.evV rfl rfl rfl rfl (fun _ X_ => Go.Sg.lk1s rfl rfl (by assumption) (by (first | ((repeat (first | exact Go.Rn.ExtB.refl _ _ | assumption | refine Go.Rn.ExtB.trans (by assumption) ?_)) <;> fail) | fail)) (by infer_instance) (by infer_instance) (by assumption)) ?_ | refine Go.Rn.Asy.evV rfl rfl rfl rfl (fun _ X_ => Go.Sg.lk1n rfl rfl (by assumption) (by (first | ((repeat (first | exact Go.Rn.ExtB.refl _ _ | assumption | refine Go.Rn.ExtB.trans (by assumption) ?_)) <;> fail) | fail)) (by infer_instance) (by infer_instance) (by assumption)) ?_ | refine Go.Rn.Asy.evV rfl rfl rfl rfl (fun _ X_ => Go.Sg.lk1 rfl rfl (by assumption) (by (first | ((repeat (first | exact Go.Rn.ExtB.refl _ _ | assumption | refine Go.Rn.ExtB.trans (by assumption) ?_)) <;> fail) | fail)) (by infer_instance) (by infer_instance)) ?_ | refine Go.Rn.Asy.evV rfl rfl rfl rfl (fun _ X_ => Go.Rn.OpV.quo Tryz.tOk rfl rfl (by omega) (by omega) (by omega)) ?_))
 refine Asy.tail (by decide +kernel) fun we Xe => ?_
 simp only [satsAll]
 refine RunL.storeW (vs := Ct.cells ⟨r, d, t, kn⟩) Tryz.tOk rfl rfl rfl rfl rfl (Z84.up (Xd.trans Xe)) rfl rfl fun w5 t5 => ?_
 have Z5 : Blk w5 B8 (Ct.cells ⟨r, d, t, kn⟩) 60 := t5.at_
 have X5 : Ext w w5 := (X4.trans (Xd.trans Xe)).write t5.ext (by intro i hi hlt; have hi : i = B8 := hi; omega)
 refine g ?_
 exact RunE.retFn hf_ (.cell rfl (Loads.agg Tryz.tOk rfl rfl rfl Z5.row) .nil) ⟨⟨d, rfl, by rw [decide_eq_true ⟨c1, c3⟩], by rw [decide_eq_true ⟨c2, c4⟩], rfl⟩, X5⟩
theorem policy1_ok (x : Vs) (no : Int) (b : Nat) (w : World) (Y : Blk w b [.int .i64 no] 3) : Rets Tryz.prog 86 [vsV x, .pointer (some ⟨b, 0, none⟩)] w fun r w' => r = .bool (decide (x.no = no)) ∧ Ext w w' := by
 refine en Tryz.func86 8 fun hf_ => ?_
 refine g1 (cs := x.cells) fun B2 w1 E1 G1 Z1 => ?_
 by_cases h : x.no = no
 ·rw [decide_eq_true h]
  refine rt ?_
  exact ⟨rfl, xt⟩
 ·rw [decide_eq_false h]
  refine rt ?_
  exact ⟨rfl, xt⟩
theorem policy_ok (c : Ct) (N : Nat) (no : Int) (x : Vs) (w : World) (hR : HoldR w N c.r) (hx : polP c.r.vs no = some x) : Rets Tryz.prog 51 [ctV c, .int .i64 no] w fun v w' => v = poV x.pol ∧ Ext w w' := by
 refine en Tryz.func51 21 fun hf_ => ?_
 refine g1 (cs := c.cells) fun B2 w1 E1 G1 Z1 => ?_
 refine g1 (cs := [.int .i64 no]) fun B3 w2 E2 G2 Z2 => ?_
 refine g ?_
 refine RunL.alloc Tryz.tOk rfl rfl rfl fun B4 w3 a4 => ?_
 have E3 := a4.ext
 have n4 := a4.eq
 have Z4 : Blk w3 B4 _ 80 := a4.at_
 clear a4
 have X3 : Ext w w3 := (E1.trans E2).trans E3
 have hR3 := hR.up X3
 have hl := hR.vl
 have s2 := (E1.trans E2).size
 refine g ?_
 refine gc (jvidx_ok c.r.vs (fun d => decide (d.no = no)) _ (.func (.func 86) #[] #[.pointer (some ⟨B3, 0, none⟩)]) w3 (by omega) hR3.vs fun x hx w' e => RetsX.v (fi := []) (args := [vsV x]) (ca := [.pointer (some ⟨B3, 0, none⟩)]) (policy1_ok x no B3 w' (Z2.up (E3.trans e)))) ?_
 rintro _ w4 ⟨rfl, E4⟩
 have X4 : Ext w w4 := X3.trans E4
 have hR4 := hR.up X4
 rcases idxF_find (fun d : Vs => decide (d.no = no)) c.r.vs with ⟨h1, -⟩ | ⟨k, d, h1, h2, h3, h4, -⟩
 ·unfold polP at hx; rw [h1] at hx; cases hx
 obtain rfl : x = d := by unfold polP at hx; rw [h1] at hx; cases hx; rfl
 rw [h4]
 have hk := (List.getElem?_eq_some_iff.1 h2).1
 obtain ⟨b, o, cap, hve, hr, -⟩ := isL_held hR4.vs hk
 have hrx := flat_row encVs hr h2
 have hrp : Row w4 b (o + k * 13 + 3) x.pol.cells := hrx.drop 3
 obtain ⟨hu, -⟩ : c.r.vu = some ⟨b, o, none⟩ ∧ c.r.vc = cap := by
  injection hve with q1 q2 q3
  exact ⟨q1, q3⟩
 have Z14 := Z1.up ((E2.trans E3).trans E4)
 have Z84 := Z4.up E4
 have Zv : Row w4 B2 4 [.slice (some ⟨b, o, none⟩) c.r.vs.length c.r.vc] := by
  rw [← hu]
  exact Z14.sub [.slice c.r.au c.r.ap.length c.r.ac, .slice c.r.du c.r.dp.length c.r.dc, .slice c.r.iu c.r.it.length c.r.ic, .slice c.r.bu c.r.bg.length c.r.bc] ([.slice c.r.ku c.r.ds.length c.r.kc, .slice c.r.nu c.r.av.length c.r.nc] ++ c.d.cells ++ [.int .i64 c.at_, .int .i64 c.kn]) rfl
 clear Z14 Z1
 refine g ?_
 refine RunL.storeW (vs := x.pol.cells) Tryz.tOk rfl rfl rfl rfl rfl Z84 rfl rfl fun w5 t5 => ?_
 have Z5 : Blk w5 B4 x.pol.cells 80 := t5.at_
 have X5 : Ext w w5 := X4.write t5.ext (by intro i hi hlt; have hi : i = B4 := hi; omega)
 refine g ?_
 exact RunE.retFn hf_ (.cell rfl (Loads.agg Tryz.tOk rfl rfl rfl Z5.row) .nil) ⟨rfl, X5⟩
theorem biased_ok (c : Ct) (N : Nat) (p : Int) (w : World) (hR : HoldR w N c.r) (hC : OkC c) (hp : 0 ≤ p ∧ p < 64) : Rets Tryz.prog 126 [ctV c, .int .i64 p] w fun v w' => v = .bool (biasP c p) ∧ Ext w w' := by
 refine en Tryz.func126 27 fun hf_ => ?_
 refine g1 (cs := c.cells) fun B2 w1 E1 G1 Z1 => ?_
 have hd := (chkDoc_in hC.r.k).2.1 c.d.d (List.mem_map.2 ⟨c.d, hC.m, rfl⟩)
 have hr := right_len hd.1
 have hpl : c.d.d.parties.length ≤ 16 ∧ incI 1048577 (-1) c.d.d.parties = true := by
  have := hr.2.1
  unfold incL at this
  rw [Bool.and_eq_true, decide_eq_true_eq] at this
  exact ⟨this.2, this.1⟩
 have hR1 := hR.up E1
 refine g ?_
 refine gc (iconflict_ok c.r.it _ p c.d.d.parties _ c.at_ c.kn w1 hC.r.i hp hpl.2 hpl.1 ⟨hC.t.1, hC.t.2, hC.k.1, hC.k.2⟩ hR1.it (hR1.hd c.d hC.m).p) ?_
 rintro _ w2 ⟨⟨u, rfl⟩, E2⟩
 refine rt ?_
 exact ⟨rfl, xt⟩
end Go.Sg
end
