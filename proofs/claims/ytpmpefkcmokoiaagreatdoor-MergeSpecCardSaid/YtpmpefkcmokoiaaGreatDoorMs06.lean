/- Parts of this project that the claims share: Dee1, Whole, Dee2, Build, Sign3, Dee3, Dee4, MapE, MapR, Iter, IterS, LoopD, Dee8, Dee9, Ref11P, Ref11V, Law11P, DeeL. -/
import Derived.Test.YtpmpefkcmokoiaaGreatDoorMs05
import Derived.Test.YtpmpefkcmokoiaaGreatDoorMs03
import Derived.Maps.RangeRun
set_option linter.unusedSimpArgs false
set_option linter.unusedVariables false
set_option linter.unusedSectionVars false
section
/- Deeds: all, formed, bytes.Compare. -/
set_option maxRecDepth 4000
namespace Go.Dee
open Go.Rn Go.RowKit Go.Rec Go.Sha Go.Sg
def cmpG (x y : Dg) : Int := Lib.compareBytes x.1 y.1
theorem cmpG_lt {x y : Dg} : cmpG x y < 0 ↔ lessG x y = true := cmpB_lt (x.2.trans y.2.symm)
theorem dg_sl {w : World} {b o : Nat} {x : Dg} (h : Row w b o (digC x)) : IsSl w 1 (.slice (some ⟨b, o, none⟩) 32 32) 32 (bytesV x.1) := .row (by rw [digC_eq] at h; exact h) (by rw [bytesV_length, x.2]) (Nat.le_refl _)
def boolC (m : Bool) : List Value := [.bool m]
theorem encBo : EncOk boolC 1 := ⟨fun _ => rfl, fun _ => rfl, by decide⟩
abbrev LBo (w : World) (v : Value) (l : List Bool) : Prop := IsL w boolC 1 v l
section
variable {P : Program} {w : World} {env : Env} {dst : Option Tmp} {ty : TypeId} {pos : String} {after : Array Edge} {guard : Option (Nat × Bool)}
theorem beq_dg (a b : Dg) : (a.1 == b.1) = (a == b) := by
 rw [Bool.eq_iff_iff, beq_iff_eq, beq_iff_eq]
 exact ⟨Subtype.ext, fun h => by rw [h]⟩
theorem OpV.eqDg {t e u : TypeId} (h : BytesArr P t e 32) {x y : Operand} {a b : Dg} (hx : evO env x = some (.agg (digC a).toArray)) (hy : evO env y = some (.agg (digC b).toArray)) :
  OpV P env w ⟨dst, .binOp .eql t x y u, ty, pos, after, guard⟩ (.bool (a == b)) := by
 rw [digV_eq] at hx hy
 rw [← beq_dg]
 exact OpV.eqBytes h hx hy a.2 b.2
theorem OpV.neDg {t e u : TypeId} (h : BytesArr P t e 32) {x y : Operand} {a b : Dg} (hx : evO env x = some (.agg (digC a).toArray)) (hy : evO env y = some (.agg (digC b).toArray)) :
  OpV P env w ⟨dst, .binOp .neq t x y u, ty, pos, after, guard⟩ (.bool (!(a == b))) := by
 rw [digV_eq] at hx hy
 rw [← beq_dg]
 exact OpV.neBytes h hx hy a.2 b.2
end
theorem incG_drop {l : List Dg} : ∀ {i : Nat} {a b : Dg}, l[i]? = some a → l[i + 1]? = some b → incG (l.drop i) = (lessG a b && incG (l.drop (i + 1))) := by
 intro i a b ha hb
 obtain ⟨h1, rfl⟩ := List.getElem?_eq_some_iff.1 ha
 obtain ⟨h2, rfl⟩ := List.getElem?_eq_some_iff.1 hb
 rw [List.drop_eq_getElem_cons h1, List.drop_eq_getElem_cons h2]
 rfl
theorem incG_end {l : List Dg} {i : Nat} (h : l.length ≤ i + 1) : incG (l.drop i) = true := by
 have : (l.drop i).length ≤ 1 := by rw [List.length_drop]; omega
 rcases hl : l.drop i with _ | ⟨a, _ | ⟨b, r⟩⟩
 ·rfl
 ·rfl
 ·rw [hl] at this; simp at this
end Go.Dee
namespace Go.Sg
open Go.Rn Go.Proofs Go.Dee Go.Rec Go.RowKit Go.Sha
attribute [local irreducible] Go.Rn.RetsX Go.Rn.RunLN Go.Rn.AsyN Go.Rn.RunL Go.Rn.RunE Go.Rn.Asy Go.Rn.OpV Go.Rn.OpE Go.Rn.ExecE
theorem guardDg : Tryz.prog.eqGuardType Tryz.prog.depth 32 = false := by kernel_rfl
theorem bytesArr : BytesArr Tryz.prog 32 5 32 where
 und := Tryz.underlying32
 elem := Tryz.underlying5
 cells := by kernel_rfl
 one := by kernel_rfl
 guard := guardDg
set_option maxRecDepth 4000 in
theorem bcompare_ok (x y : Dg) (b o b' o' : Nat) (w : World) (h : Row w b o (digC x)) (h' : Row w b' o' (digC y)) : Rets Tryz.prog 93 [.slice (some ⟨b, o, none⟩) 32 32, .slice (some ⟨b', o', none⟩) 32 32] w fun r w' => r = .int .i64 (cmpG x y) ∧ Ext w w' := by
 have hx := dg_sl h
 have hy := dg_sl h'
 have hc : (callFunc 127 #[.slice (some ⟨b, o, none⟩) 32 32, .slice (some ⟨b', o', none⟩) 32 32]).run Tryz.prog w = .ok (.value (.int .i64 (cmpG x y))) w := by
  rw [run_callFunc_extern Tryz.func127 (by kernel_rfl) (by kernel_rfl) (by kernel_rfl) (e := Extern.BytealgCompare.compare) (by kernel_rfl)]
  have e1 : IsSl w 1 (.slice (some ⟨b, o, none⟩) 32 32) x.1.length (bytesV x.1) := by rw [x.2]; exact hx
  have e2 : IsSl w 1 (.slice (some ⟨b', o', none⟩) 32 32) y.1.length (bytesV y.1) := by rw [y.2]; exact hy
  rw [run_cmpBytes e1 e2]; rfl
 refine RetsX.of (nt := 8) Tryz.func93 (by kernel_rfl) rfl rfl (by simp) (by simp only [argEnv]; rfl) ?_
 repeat' (first | (with_reducible refine RunLN.chk ?_; refine RunLN.int (by (rfl)) ?_) | refine ZzA ?_ | refine RunL.ev Tryz.tOk rfl rfl rfl ?_ | refine ZzQ ?_ | refine ZzR ?_ | refine ZzN ?_)
 refine RunL.evV rfl rfl rfl (OpV.callX rfl hc) ?_
 repeat' (first | (with_reducible refine RunLN.chk ?_; refine RunLN.int (by (rfl)) ?_) | refine RunL.ev Tryz.tOk rfl rfl rfl ?_ | refine ZzN ?_)
 exact RunE.retFn Tryz.func93 (.tmp rfl .nil) ⟨rfl, ExtB.refl _ _⟩
theorem dall_ok (l : List Bool) (v : Value) (w : World) (hv : LBo w v l) (hl : l.length ≤ 100) : Rets Tryz.prog 94 [v] w fun r w' => r = .bool (l.all id) ∧ Ext w w' := by
 refine RetsX.of (nt := 14) Tryz.func94 (by kernel_rfl) rfl rfl (by simp) (by simp only [argEnv]; rfl) ?_
 have X := ExtB.refl (fun _ => False) w
 repeat' (first | with_reducible refine ZzG rfl ?_ | (with_reducible refine RunLN.chk ?_; refine RunLN.int (by (rfl)) ?_) | refine ZzA ?_ | refine RunL.ev Tryz.tOk rfl rfl rfl ?_ | refine RunL.evV rfl rfl rfl (OpV.lenSl Tryz.tOk rfl rfl hv) ?_ | refine ZzQ ?_ | refine ZzR ?_ | refine ZzN ?_ | refine ZzB ?_)
 refine RunE.loop (ι := Nat) (fun s => [(0, v), (2, .bool false), (5, v), (6, .int .i64 (l.length : Int)), (7, .int .i64 (s : Int))])
  (fun s w' => s ≤ l.length ∧ l.all id = (l.drop s).all id ∧ w' = w) (fun s => l.length - s) 0 (by repeat (first | exact Sub.nil _ | refine Sub.cons rfl ?_)) ⟨Nat.zero_le _, rfl, rfl⟩ ?_
 rintro i _ ⟨hi, hall, rfl⟩ again
 by_cases hlt : i < l.length
 ·obtain ⟨b1, o1, c1, rfl, hr1, -⟩ := isL_held hv hlt
  obtain ⟨x, hx⟩ : ∃ x, l[i]? = some x := ⟨_, List.getElem?_eq_getElem hlt⟩
  have hrx := flat_row encBo hr1 hx
  have hd : l.drop i = x :: l.drop (i + 1) := by
   obtain ⟨hi, e⟩ := List.getElem?_eq_some_iff.1 hx
   rw [← e, List.drop_eq_getElem_cons hi]
  rw [hd, List.all_cons] at hall
  cases x with
  | true =>
   repeat' (first | with_reducible refine ZzP rfl ?_ | with_reducible refine ZzG rfl ?_ | (with_reducible refine RunLN.decT ?_ ?_; focus omega) | (with_reducible refine RunLN.chk ?_; refine RunLN.int (by (first | (refine wr_i64 ?_ ?_; omega; omega) | rfl)) ?_) | refine ZzA ?_ | refine RunL.ev Tryz.tOk rfl rfl rfl ?_ | refine RunL.evV rfl rfl rfl (OpV.load1 Tryz.tOk rfl rfl rfl ((hrx.up X) 0 _ rfl)) ?_ | refine RunL.evV rfl rfl rfl (OpV.indexS Tryz.tOk _ rfl rfl rfl rfl (by omega)) ?_ | refine ZzT rfl rfl ?_ | refine ZzF rfl rfl ?_ | refine ZzQ ?_ | refine ZzR ?_ | refine ZzN ?_ | refine ZzB ?_ | refine ZzI ?_ | refine ZzK ?_)
   exact RunE.weaken (by repeat (first | exact Sub.nil _ | refine Sub.cons rfl ?_)) (again (i + 1) _ (by omega) ⟨by omega, by rw [hall]; rfl, rfl⟩)
  | false =>
   repeat' (first | with_reducible refine ZzP rfl ?_ | with_reducible refine ZzG rfl ?_ | (with_reducible refine RunLN.decT ?_ ?_; focus omega) | refine ZzA ?_ | refine RunL.ev Tryz.tOk rfl rfl rfl ?_ | refine RunL.evV rfl rfl rfl (OpV.load1 Tryz.tOk rfl rfl rfl ((hrx.up X) 0 _ rfl)) ?_ | refine RunL.evV rfl rfl rfl (OpV.indexS Tryz.tOk _ rfl rfl rfl rfl (by omega)) ?_ | refine ZzT rfl rfl ?_ | refine ZzQ ?_ | refine ZzR ?_ | refine ZzN ?_ | refine ZzB ?_ | refine ZzK ?_)
   exact RunE.retFn Tryz.func94 (.tmp rfl .nil) ⟨by rw [hall]; rfl, X⟩
 ·obtain rfl : i = l.length := by omega
  rw [List.drop_length] at hall
  clear again
  repeat' (first | with_reducible refine ZzP rfl ?_ | (with_reducible refine RunLN.decF ?_ ?_; focus omega) | refine RunL.ev Tryz.tOk rfl rfl rfl ?_ | refine ZzF rfl rfl ?_ | refine ZzQ ?_ | refine ZzR ?_ | refine ZzN ?_ | refine RunE.exit rfl ?_)
  exact RunE.retFn Tryz.func94 (.tmp rfl .nil) ⟨by rw [hall]; rfl, X⟩
set_option maxRecDepth 4000 in
set_option maxHeartbeats 4000000 in
theorem dformed_ok (d : Deed) (u v : Value) (w : World) (hs : LDg w u d.seen) (hb : LBy w v d.data) (hl : d.seen.length < 9223372036854775808) (hl' : d.data.length < 9223372036854775808) : Rets Tryz.prog 68 [.agg (dCells d u v).toArray] w fun r w' => r = .bool (formedD d) ∧ Ext w w' := by
 refine RetsX.of (nt := 61) Tryz.func68 (by kernel_rfl) rfl rfl (by simp) (by simp only [argEnv]; rfl) ?_
 have X := ExtB.refl (fun _ => False) w
 repeat' (first | refine ZzQ ?_ | refine ZzR ?_)
 refine RunL.box rfl rfl rfl fun B1 w1_ a_ => ?_
 have Z1 : Blk w1_ B1 (dCells d u v) 38 := a_.at_
 have gB1 := a_.ge X
 replace X := X.trans a_.ext
 clear a_
 repeat' (first | with_reducible refine ZzG rfl ?_ | (with_reducible refine RunLN.chk ?_; refine RunLN.int (by (rfl)) ?_) | refine RunL.ev Tryz.tOk rfl rfl rfl ?_ | refine ZzQ ?_ | refine ZzR ?_ | refine ZzN ?_ | refine ZzB ?_)
 refine RunE.loop (ι := Nat) (fun s => [(0, .agg (dCells d u v).toArray), (1, .pointer (some ⟨B1, 0, none⟩)), (2, .bool false), (3, .int .i64 ((s : Int) + 1))])
  (fun s w' => (s < d.seen.length ∨ s = 0) ∧ incG d.seen = incG (d.seen.drop s) ∧ Ext w w' ∧ Blk w' B1 (dCells d u v) 38) (fun s => d.seen.length - s) 0 (by repeat (first | exact Sub.nil _ | refine Sub.cons rfl ?_)) ⟨.inr rfl, rfl, X, Z1⟩ ?_
 clear X Z1
 rintro i w3 ⟨hi, hinc, X, Z1⟩ again
 by_cases hlt : i + 1 < d.seen.length
 ·obtain ⟨a, ha⟩ : ∃ a, d.seen[i]? = some a := ⟨_, List.getElem?_eq_getElem (by omega)⟩
  obtain ⟨b, hb'⟩ : ∃ b, d.seen[i + 1]? = some b := ⟨_, List.getElem?_eq_getElem hlt⟩
  rw [incG_drop ha hb'] at hinc
  obtain ⟨b1, o1, c1, rfl, hr1, -⟩ := isL_held hs hlt
  have hra := flat_row encG (hr1.up X) ha
  have hrb := flat_row encG (hr1.up X) hb'
  repeat' (first | (with_reducible refine RunLN.decT ?_ ?_; focus omega) | (with_reducible refine RunLN.chk ?_; refine RunLN.int (by (rfl)) ?_) | refine ZzA ?_ | refine RunL.ev Tryz.tOk rfl rfl rfl ?_ | refine RunL.evV rfl rfl rfl (OpV.load1 Tryz.tOk rfl rfl rfl (Blk.cell Z1 rfl)) ?_ | refine ZzT rfl rfl ?_ | refine ZzQ ?_ | refine ZzR ?_ | refine ZzN ?_ | refine ZzB ?_ | refine ZzK ?_)
  refine RunE.draw (fun _ => False) mix ?_
  intro wd_ Xd_
  cases hc : lessG a b with
  | true =>
   have hc' := cmpG_lt.2 hc
   repeat' (first | (with_reducible refine AsyN.decF ?_ ?_; focus omega) | (with_reducible refine AsyN.chk ?_; refine AsyN.int (by (first | (refine wr_i64 ?_ ?_; omega; omega) | rfl)) ?_) | refine AsyN.any ?_ | refine Asy.ev Tryz.tOk rfl rfl rfl ?_ | refine Asy.evV rfl rfl rfl rfl (fun _ X_ => OpV.load1 Tryz.tOk rfl rfl rfl (Blk.cell (Z1.up (Xd_.trans X_)) rfl)) ?_ | refine Asy.evV rfl rfl rfl rfl (fun _ X_ => OpV.indexS Tryz.tOk i rfl rfl rfl (by first | rfl | omega) (by omega)) ?_ | refine Asy.evV rfl rfl rfl rfl (fun _ X_ => OpV.indexS Tryz.tOk (i+1) rfl rfl rfl (by first | rfl | omega) (by omega)) ?_ | refine Asy.evV rfl rfl rfl rfl (fun _ X_ => (OpV.sliceAq Tryz.tOk rfl rfl .none .none (Nat.zero_le _) (Nat.le_refl _) rfl rfl rfl)) ?_ | refine Asy.callN rfl rfl rfl (fun _ X_ => (bcompare_ok a b _ _ _ _ _ (hra.up (Xd_.trans X_)) (hrb.up (Xd_.trans X_)))) ?_)
   refine Asy.end_ (by kernel_rfl) ?_
   intro we_ Xe_
   replace X := X.trans (Xd_.trans Xe_)
   replace Z1 := Z1.up (Xd_.trans Xe_)
   clear Xd_ Xe_
   repeat' (first | (with_reducible refine RunLN.chk ?_; refine RunLN.int (by (first | (refine wr_i64 ?_ ?_; omega; omega) | rfl)) ?_) | refine RunL.ev Tryz.tOk rfl rfl rfl ?_ | refine ZzF rfl rfl ?_ | refine ZzR ?_ | refine ZzN ?_ | refine ZzI ?_ | refine ZzK ?_)
   refine RunE.weaken (by repeat (first | exact Sub.nil _ | refine Sub.cons rfl ?_)) (again (i + 1) _ (by omega) ⟨.inl (by omega), by rw [hinc, hc, Bool.true_and], X, Z1⟩)
  | false =>
   have hc' : ¬ cmpG a b < 0 := fun h => by rw [cmpG_lt.1 h] at hc; cases hc
   repeat' (first | (with_reducible refine AsyN.decT ?_ ?_; focus omega) | (with_reducible refine AsyN.chk ?_; refine AsyN.int (by (first | (refine wr_i64 ?_ ?_; omega; omega) | rfl)) ?_) | refine AsyN.any ?_ | refine Asy.ev Tryz.tOk rfl rfl rfl ?_ | refine Asy.evV rfl rfl rfl rfl (fun _ X_ => OpV.load1 Tryz.tOk rfl rfl rfl (Blk.cell (Z1.up (Xd_.trans X_)) rfl)) ?_ | refine Asy.evV rfl rfl rfl rfl (fun _ X_ => OpV.indexS Tryz.tOk i rfl rfl rfl (by first | rfl | omega) (by omega)) ?_ | refine Asy.evV rfl rfl rfl rfl (fun _ X_ => OpV.indexS Tryz.tOk (i+1) rfl rfl rfl (by first | rfl | omega) (by omega)) ?_ | refine Asy.evV rfl rfl rfl rfl (fun _ X_ => (OpV.sliceAq Tryz.tOk rfl rfl .none .none (Nat.zero_le _) (Nat.le_refl _) rfl rfl rfl)) ?_ | refine Asy.callN rfl rfl rfl (fun _ X_ => (bcompare_ok a b _ _ _ _ _ (hra.up (Xd_.trans X_)) (hrb.up (Xd_.trans X_)))) ?_)
   refine Asy.end_ (by kernel_rfl) ?_
   intro we_ Xe_
   replace X := X.trans (Xd_.trans Xe_)
   clear Xd_ Xe_
   have hf : formedD d = false := by unfold formedD; rw [hinc, hc]; simp
   repeat' (first | with_reducible refine ZzG rfl ?_ | refine RunL.ev Tryz.tOk rfl rfl rfl ?_ | refine ZzT rfl rfl ?_ | refine ZzQ ?_ | refine ZzR ?_ | refine ZzN ?_)
   exact RunE.retFn Tryz.func68 (.tmp rfl .nil) ⟨by rw [hf]; rfl, X⟩
 ·rw [incG_end (by omega)] at hinc
  clear again
  repeat' (first | (with_reducible refine RunLN.decF ?_ ?_; focus omega) | (with_reducible refine RunLN.chk ?_; refine RunLN.int (by (rfl)) ?_) | refine ZzA ?_ | refine RunL.ev Tryz.tOk rfl rfl rfl ?_ | refine RunL.evV rfl rfl rfl (OpV.load1 Tryz.tOk rfl rfl rfl (Blk.cell Z1 rfl)) ?_ | refine RunL.evV rfl rfl rfl (OpV.lenSl Tryz.tOk rfl rfl hs) ?_ | refine ZzF rfl rfl ?_ | refine ZzQ ?_ | refine ZzR ?_ | refine ZzN ?_ | refine RunE.exit rfl ?_)
  have hp : ∀ (m : Bool), firstD d = m → ([decide (d.person ≥ 0), decide (d.person < 64), decide (d.no ≥ 0), decide (d.no < 4096), decide (d.at_ ≥ 0), decide (d.at_ < 1099511627776), decide ((d.seen.length : Int) ≤ 64), decide ((d.data.length : Int) ≤ 65536), m].all id) = formedD d := by
   intro m hm
   unfold formedD numsD
   rw [hinc, hm, Bool.and_true, Bool.eq_iff_iff]
   simp only [List.all_cons, List.all_nil, id, Bool.and_eq_true, decide_eq_true_eq, Bool.and_true]
   cases m <;> simp <;> omega
  by_cases hno : 0 < d.no
  ·have hf : firstD d = true := by unfold firstD; rw [decide_eq_true hno]; rfl
   have hq : decide (d.no > 0) = true := decide_eq_true hno
   refine RunE.draw (fun _ => False) mix ?_
   intro wd_ Xd_
   repeat' (first | with_reducible refine AsyN.boolT rfl ?_ | refine AsyN.boolT (by assumption) ?_ | (with_reducible refine AsyN.chk ?_; refine AsyN.int (by (rfl)) ?_) | refine AsyN.any ?_ | refine Asy.ev Tryz.tOk rfl rfl rfl ?_ | refine Asy.unwantedD rfl rfl rfl ?_ | refine Asy.evV rfl rfl rfl rfl (fun _ X_ => OpV.load1 Tryz.tOk rfl rfl rfl (Blk.cell (Z1.up (Xd_.trans X_)) rfl)) ?_ | refine Asy.evV rfl rfl rfl rfl (fun _ X_ => OpV.lenSl Tryz.tOk rfl rfl hs) ?_ | refine Asy.evV rfl rfl rfl rfl (fun _ X_ => OpV.lenSl Tryz.tOk rfl rfl hb) ?_)
   refine Asy.end_ (by kernel_rfl) ?_
   intro we_ Xe_
   replace X := X.trans (Xd_.trans Xe_)
   clear Xd_ Xe_ Z1
   refine RunL.ex rfl rfl rfl (OpE.buildSl Tryz.tOk [.bool (decide (d.person ≥ 0)), .bool (decide (d.person < 64)), .bool (decide (d.no ≥ 0)), .bool (decide (d.no < 4096)), .bool (decide (d.at_ ≥ 0)), .bool (decide (d.at_ < 1099511627776)), .bool (decide ((d.seen.length : Int) ≤ 64)), .bool (decide ((d.data.length : Int) ≤ 65536)), .bool true] rfl rfl rfl rfl rfl rfl (by simp [Value.cells])) ?_
   rintro _ w_ ⟨B_, rfl, a_⟩
   have k1 : LBo w_ (.slice (some ⟨B_, 0, none⟩) 9 9) [decide (d.person ≥ 0), decide (d.person < 64), decide (d.no ≥ 0), decide (d.no < 4096), decide (d.at_ ≥ 0), decide (d.at_ < 1099511627776), decide ((d.seen.length : Int) ≤ 64), decide ((d.data.length : Int) ≤ 65536), true] := (isSl_added (n := 9) (sz := 1) a_ rfl)
   replace X := X.trans a_.ext
   clear a_
   skip
   refine RunL.call rfl rfl rfl (dall_ok _ _ _ k1 (by simp)) ?_
   rintro _ _ ⟨rfl, Xa_⟩
   replace X := X.trans Xa_
   clear Xa_
   rw [hp _ hf]
   repeat' (first | refine ZzA ?_ | refine RunL.ev Tryz.tOk rfl rfl rfl ?_ | refine ZzN ?_)
   exact RunE.retFn Tryz.func68 (.tmp rfl .nil) ⟨rfl, X⟩
  ·have hf : firstD d = (d.prev == zeroG) := by unfold firstD; rw [decide_eq_false hno]; rfl
   have hq : decide (d.no > 0) = false := decide_eq_false hno
   refine RunE.draw (fun _ => False) mix ?_
   intro wd_ Xd_
   repeat' (first | with_reducible refine AsyN.boolF rfl ?_ | refine AsyN.boolF (by assumption) ?_ | (with_reducible refine AsyN.chk ?_; refine AsyN.int (by (rfl)) ?_) | refine AsyN.any ?_ | refine Asy.ev Tryz.tOk rfl rfl rfl ?_ | refine Asy.evV rfl rfl rfl rfl (fun _ X_ => OpV.load1 Tryz.tOk rfl rfl rfl (Blk.cell (Z1.up (Xd_.trans X_)) rfl)) ?_ | refine Asy.evV rfl rfl rfl rfl (fun _ X_ => OpV.lenSl Tryz.tOk rfl rfl hs) ?_ | refine Asy.evV rfl rfl rfl rfl (fun _ X_ => OpV.lenSl Tryz.tOk rfl rfl hb) ?_ | refine Asy.evV rfl rfl rfl rfl (fun _ X_ => OpV.loadN Tryz.tOk rfl rfl rfl rfl ((row_prev (Blk.row Z1)).up (Xd_.trans X_))) ?_ | refine Asy.evV rfl rfl rfl rfl (fun _ X_ => (OpV.eqDg (a := d.prev) (b := zeroG) bytesArr rfl rfl)) ?_)
   refine Asy.end_ (by kernel_rfl) ?_
   intro we_ Xe_
   replace X := X.trans (Xd_.trans Xe_)
   clear Xd_ Xe_ Z1
   refine RunL.ex rfl rfl rfl (OpE.buildSl Tryz.tOk [.bool (decide (d.person ≥ 0)), .bool (decide (d.person < 64)), .bool (decide (d.no ≥ 0)), .bool (decide (d.no < 4096)), .bool (decide (d.at_ ≥ 0)), .bool (decide (d.at_ < 1099511627776)), .bool (decide ((d.seen.length : Int) ≤ 64)), .bool (decide ((d.data.length : Int) ≤ 65536)), .bool (d.prev == zeroG)] rfl rfl rfl rfl rfl rfl (by simp [Value.cells])) ?_
   rintro _ w_ ⟨B_, rfl, a_⟩
   have k1 : LBo w_ (.slice (some ⟨B_, 0, none⟩) 9 9) [decide (d.person ≥ 0), decide (d.person < 64), decide (d.no ≥ 0), decide (d.no < 4096), decide (d.at_ ≥ 0), decide (d.at_ < 1099511627776), decide ((d.seen.length : Int) ≤ 64), decide ((d.data.length : Int) ≤ 65536), d.prev == zeroG] := (isSl_added (n := 9) (sz := 1) a_ rfl)
   replace X := X.trans a_.ext
   clear a_
   skip
   refine RunL.call rfl rfl rfl (dall_ok _ _ _ k1 (by simp)) ?_
   rintro _ _ ⟨rfl, Xa_⟩
   replace X := X.trans Xa_
   clear Xa_
   rw [hp _ hf]
   repeat' (first | refine ZzA ?_ | refine RunL.ev Tryz.tOk rfl rfl rfl ?_ | refine ZzN ?_)
   exact RunE.retFn Tryz.func68 (.tmp rfl .nil) ⟨rfl, X⟩
end Go.Sg
end
section
/- A variable of many cells that is written whole. -/
set_option maxRecDepth 4000
namespace Go.Rn
open Go.RowKit
theorem setAt_app : ∀ (vs a b : List Value), b.length = vs.length → setAt (a ++ b) a.length vs = a ++ vs
 | [], a, b, h => by
  have : b = [] := List.length_eq_zero_iff.1 h
  subst this; rfl
 | v :: r, a, [], h => by simp at h
 | v :: r, a, x :: b, h => by
  have e : (a ++ x :: b).set a.length v = (a ++ [v]) ++ b := by
   rw [List.set_append_right _ _ (Nat.le_refl _), Nat.sub_self]; simp
  show setAt ((a ++ x :: b).set a.length v) (a.length + 1) r = _
  have e2 : a.length + 1 = (a ++ [v]).length := by simp
  rw [e, e2, setAt_app r (a ++ [v]) b (by simpa using h)]
  simp
theorem setAt_whole {cs vs : List Value} (h : cs.length = vs.length) : setAt cs 0 vs = vs := setAt_app vs [] cs h
section
variable {P : Program} {c : Ctx} {k : List Item} {Q : Out → Act → World → Prop} {w : World} {n : Nat} {ds : List Deferred} {env : Env}
variable {ops : Array Oper} {d : Tmp} {op : Op} {ty : TypeId} {pos : String} {after : Array Edge} {guard : Option (Nat × Bool)} {rest : List Oper}
theorem RunL.storeW {T : Tab} (hT : T.Ok P) {t bt : TypeId} {i : TI} {x y : Operand} {b : Nat} {cs vs : List Value}
  (hw : wantE ops.toList env ⟨none, .store t x y, ty, pos, after, guard⟩ = some true) (hx : evO env x = some (.pointer (some ⟨b, 0, none⟩))) (hy : evO env y = some (.agg vs.toArray))
  (ht : T.get t = some i) (hsz : vs.length = i.size) (hb : Blk w b cs bt) (hlen : cs.length = vs.length) (hp : vs.all plainV = true)
  (h : ∀ w', Turned w w' b (.cells vs.toArray bt (0, 0)) → RunL P c n ds ops rest k Q env w') :
  RunL P c n ds ops (⟨none, .store t x y, ty, pos, after, guard⟩ :: rest) k Q env w := by
 refine RunL.store hT hw hx hy ht hsz hb ?_ hp fun w' t' => ?_
 ·show Nat.ble (0 + vs.length) cs.length = true
  rw [Nat.zero_add, hlen]; rw [Nat.ble_eq]; exact Nat.le_refl _
 ·have e : setAt cs 0 (Value.agg vs.toArray).cells.toList = vs := setAt_whole hlen
  rw [e] at t'
  exact h w' t'
end
section
variable {P : Program} {c : Ctx} {k : List Item} {Q : Out → Act → World → Prop} {w0 : World} {n : Nat} {ds : List Deferred} {env : Env} {S : Nat → Prop} {sats pres : List (Nat × Pred)} {ph : Option (Option Nat × Pred)} {mu : List Bool}
variable {l : List Oper} {d : Tmp} {op : Op} {ty : TypeId} {pos : String} {after : Array Edge} {guard : Option (Nat × Bool)} {rest : List Oper}
theorem Asy.sat1P {T : Tab} (hT : T.Ok P) (i : Nat) {t : Nat} {U : Pred} (V : Pred) (hi : sats[i]? = some (t, U)) (hl : (Oper.looksAt l.toArray ⟨some d, op, ty, pos, after, guard⟩).contains t = true)
  (hw : wantE l env ⟨some d, op, ty, pos, after, guard⟩ = some true) (hdst : Nat.blt d n = true) (hd : isDefer op = false) (hs : isSel op = false)
  (hV : ∀ v w' w'', ExtB S w0 w' → ExtB S w' w'' → V v w' → V v w'')
  (h : ∀ w' x, ExtB S w0 w' → U x w' → ∃ y, evalOp T ((t, x) :: env) op = some y ∧ V y w')
  (h' : Asy P c n ds S w0 l k Q rest ⟨env.del (some d), (d, V) :: sats, ph, false :: mu, pres⟩) : Asy P c n ds S w0 l k Q (⟨some d, op, ty, pos, after, guard⟩ :: rest) ⟨env, sats, ph, mu, pres⟩ :=
 .sat1 i V hi hl hw hdst hd hs hV (fun w' x s hx => by
  obtain ⟨y, h1, h2⟩ := h w' x s hx
  refine OpE.mono (OpV.e (evalOp_v (o := ⟨some d, op, ty, pos, after, guard⟩) hT h1)) ?_ fun _ _ h => h
  rintro _ _ ⟨rfl, rfl⟩
  exact ⟨ExtB.refl _ _, h2⟩) h'
theorem Asy.val1P {T : Tab} (hT : T.Ok P) (i : Nat) {t : Nat} {U : Pred} {v : Value} (hi : sats[i]? = some (t, U)) (hl : (Oper.looksAt l.toArray ⟨some d, op, ty, pos, after, guard⟩).contains t = true)
  (hw : wantE l env ⟨some d, op, ty, pos, after, guard⟩ = some true) (hdst : Nat.blt d n = true) (hd : isDefer op = false) (hs : isSel op = false)
  (h : ∀ w' x, ExtB S w0 w' → U x w' → evalOp T ((t, x) :: env) op = some v)
  (h' : Asy P c n ds S w0 l k Q rest ⟨(d, v) :: env, sats, ph, false :: mu, pres⟩) : Asy P c n ds S w0 l k Q (⟨some d, op, ty, pos, after, guard⟩ :: rest) ⟨env, sats, ph, mu, pres⟩ :=
 .val1 i hi hl hw hdst hd hs (fun w' x s hx => by
  refine OpE.mono (OpV.e (evalOp_v (o := ⟨some d, op, ty, pos, after, guard⟩) hT (h w' x s hx))) ?_ fun _ _ h => h
  rintro _ _ ⟨rfl, rfl⟩
  exact ⟨rfl, ExtB.refl _ _⟩) h'
end
end Go.Rn
namespace Go
open Go.Rn
theorem World.ownsRow.up {w w' : World} {base : Nat} {e : TypeId} {sz n : Nat} {v : Value} {xs : List Value} (h : w.ownsRow base e sz v n xs) (x : Ext w w') : w'.ownsRow base e sz v n xs := ownsRow_ext h x fun _ _ h => h
end Go
end
section
/- Deeds: hash, number, list, text. -/
set_option maxRecDepth 4000
namespace Go.Dee
open Go.Rn Go.RowKit Go.Rec Go.Sha Go.Sg Go.Cod
@[reducible] def rowX (s : List UInt8) : List Value := [.int .i64 2, .int .i64 0, .string (strOf s), .slice none 0 0]
@[reducible] def rowT (x : Dg) : List Value := rowX x.1
@[reducible] def rowN (n : Int) : List Value := [.int .i64 1, .int .i64 n, .string ⟨#[]⟩, .slice none 0 0]
@[reducible] def rowL (v : Value) : List Value := [.int .i64 3, .int .i64 0, .string ⟨#[]⟩, v]
theorem encT' : EncOk rowT 4 := ⟨fun _ => rfl, fun _ => rfl, by decide⟩
abbrev LTx (w : World) (v : Value) (l : List Dg) : Prop := IsL w rowT 4 v l
theorem flatT : ∀ l : List Dg, flat rowT l = ((l.map fun x => CV.text x.1).map rowOf).flatten
 | [] => rfl
 | x :: l => by rw [flat_cons, flatT l]; rfl
theorem texts_in {w : World} {l : List Dg} {v : Value} (hl : l.length ≤ 100) (hv : LTx w v l) : (CV.list (l.map fun x => CV.text x.1)).In w (rowL v) := by
 refine ⟨by simp; omega, _, _, rfl, ?_, ins_rows _ fun c hc => ?_⟩
 ·have : IsSl w 4 v l.length (flat rowT l) := hv
  rw [flatT] at this
  simpa using this
 ·obtain ⟨x, hx, rfl⟩ := List.mem_map.1 hc
  exact ⟨by rw [x.2]; decide, _, rfl⟩
theorem deed_in {w : World} {d : Deed} {vs v6 : Value} (hf : formedD d = true) (hs : LTx w vs d.seen) (h6 : IsSl w 4 v6 6 (rowN d.person ++ rowN d.no ++ rowN d.at_ ++ rowT d.prev ++ rowL vs ++ rowX d.data)) : (cvD d).In w (rowL v6) := by
 obtain ⟨⟨p0, p1, n0, n1, t0, t1, l0, l1⟩, -⟩ := formedD_inv hf
 refine ⟨by simp, v6, [rowN d.person, rowN d.no, rowN d.at_, rowT d.prev, rowL vs, rowX d.data], rfl, ?_, ?_⟩
 ·simpa using h6
 ·exact ⟨_, _, rfl, ⟨by omega, _, rfl⟩, _, _, rfl, ⟨by omega, _, rfl⟩, _, _, rfl, ⟨by omega, _, rfl⟩, _, _, rfl, ⟨by rw [d.prev.2]; decide, _, rfl⟩, _, _, rfl, texts_in (by omega) hs, _, _, rfl, ⟨by omega, _, rfl⟩, rfl⟩
theorem deed_depth (d : Deed) : (cvD d).depth ≤ 16 := by
 unfold cvD
 have : depths (d.seen.map fun x => CV.text x.1) = 0 := depths_zero _ fun c hc => by
  obtain ⟨x, -, rfl⟩ := List.mem_map.1 hc; rfl
 simp only [CV.depth, depths, this]; decide
theorem encs_le {l : List CV} {k : Nat} (h : ∀ c ∈ l, c.enc.length ≤ k) : (encs l).length ≤ l.length * k := by
 induction l with
 | nil => simp [encs]
 | cons c l ih =>
  have h1 := h c List.mem_cons_self
  have h2 := ih fun c hc => h c (List.mem_cons_of_mem _ hc)
  simp only [encs, List.length_append, List.length_cons, Nat.add_mul]
  omega
theorem deed_enc {d : Deed} (hf : formedD d = true) : (cvD d).enc.length ≤ 100000 := by
 obtain ⟨⟨p0, p1, n0, n1, t0, t1, l0, l1⟩, -⟩ := formedD_inv hf
 have h1 := num_le _ (zig_lt d.person (by omega))
 have h2 := num_le _ (zig_lt d.no (by omega))
 have h3 := num_le _ (zig_lt d.at_ (by omega))
 have h4 := num_le d.data.length (by omega)
 have h5 := num_le d.seen.length (by omega)
 have h6 := num_le 32 (by omega)
 have h7 := num_le (1 + 1 + 1 + 1 + 1 + 1) (by omega)
 have h8 : (encs (d.seen.map fun x => CV.text x.1)).length ≤ (d.seen.map fun x => CV.text x.1).length * 100 := encs_le fun c hc => by
  obtain ⟨x, -, rfl⟩ := List.mem_map.1 hc
  simp only [CV.enc, List.length_cons, List.length_append]
  rw [x.2]; omega
 unfold cvD
 simp only [CV.enc, encs, List.length_cons, List.length_append, List.length_nil, List.length_map, Nat.zero_add, d.prev.2] at h8 ⊢
 omega
theorem text_len {d : Deed} (hf : formedD d = true) : (textD d).length ≤ 100000 := deed_enc hf
end Go.Dee
namespace Go.Sg
open Go.Rn Go.Proofs Go.Dee Go.Rec Go.RowKit Go.Sha Go.Cod
attribute [local irreducible] Go.Rn.RetsX Go.Rn.RunLN Go.Rn.AsyN Go.Rn.RunL Go.Rn.RunE Go.Rn.Asy Go.Rn.OpV Go.Rn.OpE Go.Rn.ExecE
def z4 : List Value := [.int .i64 0, .int .i64 0, .string ⟨#[]⟩, .slice none 0 0]
theorem dnumber_ok (n : Int) (w : World) : Rets Tryz.prog 84 [.int .i64 n] w fun r w' => r = .agg (rowN n).toArray ∧ Ext w w' := by
 refine RetsX.of (nt := 5) Tryz.func84 (by kernel_rfl) rfl rfl (by simp) (by simp only [argEnv]; rfl) ?_
 have X := ExtB.refl (fun _ => False) w
 repeat' (first | refine ZzQ ?_ | refine ZzR ?_)
 refine RunL.alloc Tryz.tOk rfl rfl rfl fun B2 w2_ a_ => ?_
 have Z2 : Blk w2_ B2 (z4) 116 := a_.at_
 have gB2 := a_.ge X
 replace X := X.trans a_.ext
 clear a_
 repeat' (first | (with_reducible refine RunLN.chk ?_; refine RunLN.int (by (rfl)) ?_) | refine ZzA ?_ | refine RunL.ev Tryz.tOk rfl rfl rfl ?_ | refine ZzQ ?_ | refine ZzR ?_ | refine ZzN ?_)
 refine RunL.store Tryz.tOk rfl rfl rfl rfl rfl Z2 rfl rfl fun w_ t_ => ?_
 replace X := X.own t_.ext gB2
 replace Z2 : Blk w_ B2 (rowN n) 116 := t_.at_
 clear t_
 repeat' (first | refine ZzN ?_)
 exact RunE.retFn Tryz.func84 (.cell rfl (.agg Tryz.tOk rfl rfl rfl Z2.row) .nil) ⟨rfl, X⟩
theorem dlist_ok (d : Option Addr) (n c : Nat) (w : World) : Rets Tryz.prog 83 [.slice d n c] w fun r w' => r = .agg (rowL (.slice d n c)).toArray ∧ Ext w w' := by
 refine RetsX.of (nt := 5) Tryz.func83 (by kernel_rfl) rfl rfl (by simp) (by simp only [argEnv]; rfl) ?_
 have X := ExtB.refl (fun _ => False) w
 repeat' (first | refine ZzQ ?_ | refine ZzR ?_)
 refine RunL.alloc Tryz.tOk rfl rfl rfl fun B2 w2_ a_ => ?_
 have Z2 : Blk w2_ B2 (z4) 116 := a_.at_
 have gB2 := a_.ge X
 replace X := X.trans a_.ext
 clear a_
 repeat' (first | refine ZzA ?_ | refine RunL.ev Tryz.tOk rfl rfl rfl ?_ | refine ZzQ ?_ | refine ZzR ?_ | refine ZzN ?_)
 refine RunL.store Tryz.tOk rfl rfl rfl rfl rfl Z2 rfl rfl fun w_ t_ => ?_
 replace X := X.own t_.ext gB2
 replace Z2 : Blk w_ B2 (rowL (.slice d n c)) 116 := t_.at_
 clear t_
 repeat' (first | refine ZzN ?_)
 exact RunE.retFn Tryz.func83 (.cell rfl (.agg Tryz.tOk rfl rfl rfl Z2.row) .nil) ⟨rfl, X⟩
set_option maxRecDepth 4000 in
theorem dhash_ok (x : Dg) (w : World) : Rets Tryz.prog 81 [.agg (digC x).toArray] w fun r w' => r = .agg (rowT x).toArray ∧ Ext w w' := by
 refine RetsX.of (nt := 6) Tryz.func81 (by kernel_rfl) rfl rfl (by simp) (by simp only [argEnv]; rfl) ?_
 have X := ExtB.refl (fun _ => False) w
 repeat' (first | refine ZzQ ?_ | refine ZzR ?_)
 refine RunL.box rfl rfl rfl fun B1 w1_ a_ => ?_
 have Z1 : Blk w1_ B1 (digC x) 32 := a_.at_
 have gB1 := a_.ge X
 replace X := X.trans a_.ext
 clear a_
 skip
 refine RunL.alloc Tryz.tOk rfl rfl rfl fun B2 w2_ a_ => ?_
 have Z2 : Blk w2_ B2 (z4) 116 := a_.at_
 have gB2 := a_.ge X
 have n1_2 : B1 ≠ B2 := by have := Z1.lt; have := a_.eq; omega
 have n2_1 : B2 ≠ B1 := Ne.symm n1_2
 replace Z1 := Z1.up a_.ext
 replace X := X.trans a_.ext
 clear a_
 have hsl := dg_sl Z1.row
 repeat' (first | refine ZzA ?_ | refine RunL.ev Tryz.tOk rfl rfl rfl ?_ | refine RunL.evV rfl rfl rfl ((OpV.sliceAq Tryz.tOk rfl rfl .none .none (Nat.zero_le _) (Nat.le_refl _) rfl rfl rfl)) ?_ | refine RunL.evV rfl rfl rfl ((OpV.b2sSl (l := x.1) Tryz.tOk rfl rfl rfl rfl hsl)) ?_ | refine ZzQ ?_ | refine ZzR ?_ | refine ZzN ?_)
 refine RunL.store Tryz.tOk rfl rfl rfl rfl rfl Z2 rfl rfl fun w_ t_ => ?_
 replace X := X.own t_.ext gB2
 replace Z2 : Blk w_ B2 (rowT x) 116 := t_.at_
 clear t_
 repeat' (first | refine ZzN ?_)
 exact RunE.retFn Tryz.func81 (.cell rfl (.agg Tryz.tOk rfl rfl rfl Z2.row) .nil) ⟨rfl, X⟩
set_option maxRecDepth 4000 in
set_option maxHeartbeats 4000000 in
theorem dtext_ok (d : Deed) (u v : Value) (w : World) (hs : LDg w u d.seen) (hb : LBy w v d.data) (hf : formedD d = true) :
  Rets Tryz.prog 54 [.agg (dCells d u v).toArray] w fun r w' => w'.ownsRow w.heap.size 5 1 r (textD d).length (bytesV (textD d)) ∧ Ext w w' := by
 have hn := (formedD_inv hf).1
 have henc := deed_enc hf
 have hdep := deed_depth d
 have hsl : d.seen.length ≤ 64 := hn.2.2.2.2.2.2.1
 have hdl : d.data.length ≤ 65536 := hn.2.2.2.2.2.2.2
 clear hn
 refine RetsX.of (nt := 46) Tryz.func54 (by kernel_rfl) rfl rfl (by simp) (by simp only [argEnv]; rfl) ?_
 have X := ExtB.refl (fun _ => False) w
 repeat' (first | refine ZzQ ?_ | refine ZzR ?_)
 refine RunL.box rfl rfl rfl fun B1 w1_ a_ => ?_
 have Z1 : Blk w1_ B1 (dCells d u v) 38 := a_.at_
 have gB1 := a_.ge X
 replace X := X.trans a_.ext
 clear a_
 repeat' (first | (with_reducible refine RunLN.chk ?_; refine RunLN.int (by (rfl)) ?_) | refine ZzA ?_ | refine RunL.ev Tryz.tOk rfl rfl rfl ?_ | refine RunL.evV rfl rfl rfl (OpV.load1 Tryz.tOk rfl rfl rfl (Blk.cell Z1 rfl)) ?_ | refine RunL.evV rfl rfl rfl (OpV.lenSl Tryz.tOk rfl rfl hs) ?_ | refine ZzQ ?_ | refine ZzR ?_ | refine ZzN ?_ | refine ZzB ?_)
 refine RunE.loop (ι := Nat × Value) (fun s => [(0, .agg (dCells d u v).toArray), (1, .pointer (some ⟨B1, 0, none⟩)), (2, .slice none 0 0), (3, s.2), (9, u), (10, .int .i64 (d.seen.length : Int)), (11, .int .i64 (s.1 : Int))])
  (fun s w' => s.1 ≤ d.seen.length ∧ w'.ownsRow w.heap.size 116 4 s.2 (d.seen.take s.1).length (flat rowT (d.seen.take s.1)) ∧ (∀ k, s.2.ownBlock = some k → k ≠ B1) ∧ Ext w w' ∧ Blk w' B1 (dCells d u v) 38) (fun s => d.seen.length - s.1) (0, .slice none 0 0) (by repeat (first | exact Sub.nil _ | refine Sub.cons rfl ?_))
  ⟨Nat.zero_le _, World.ownsRow_nil _ _ _ _, fun k hk => by simp [Value.ownBlock] at hk, X, Z1⟩ ?_
 clear X Z1
 rintro ⟨i, y⟩ w3 ⟨hi, hO, hne, X, Z1⟩ again
 simp only at hi hO hne again ⊢
 by_cases hlt : i < d.seen.length
 ·obtain ⟨b1, o1, c1, rfl, hr1, -⟩ := isL_held hs hlt
  obtain ⟨x, hx⟩ : ∃ x, d.seen[i]? = some x := ⟨_, List.getElem?_eq_getElem hlt⟩
  have hrx := flat_row encG hr1 hx
  have e1 : d.seen.take (i + 1) = d.seen.take i ++ [x] := by rw [List.take_add_one, hx]; rfl
  have hfl : (d.seen.take i).length ≤ 100 := by simp; omega
  have next : ∀ (u' : Value) w', _ → _ → _ → _ → _ := fun u' w' a b c d => again (i + 1, u') w' (by simp only; omega) ⟨by simp only; omega, a, b, c, d⟩
  simp only [e1] at next
  clear again e1
  generalize d.seen.take i = f at hO next hfl
  obtain ⟨dy, cy, rfl⟩ := isSl_slice (isSl_own hO)
  repeat' (first | (with_reducible refine RunLN.decT ?_ ?_; focus omega) | refine ZzA ?_ | refine RunL.ev Tryz.tOk rfl rfl rfl ?_ | refine RunL.evV rfl rfl rfl (OpV.loadN Tryz.tOk rfl rfl rfl rfl (hrx.up X)) ?_ | refine RunL.evV rfl rfl rfl (OpV.indexS Tryz.tOk _ rfl rfl rfl rfl (by omega)) ?_ | refine ZzT rfl rfl ?_ | refine ZzQ ?_ | refine ZzR ?_ | refine ZzN ?_ | refine ZzB ?_ | refine ZzK ?_)
  refine RunL.alloc Tryz.tOk rfl rfl rfl fun B5 wa_ aa_ => ?_
  have gB5 := aa_.ge X
  refine RunL.storeW (vs := digC x) Tryz.tOk rfl rfl rfl rfl rfl aa_.at_ rfl rfl fun w5_ tb_ => ?_
  have Xa_ : Ext _ w5_ := aa_.ext.write tb_.ext (by intro i_ hi_ hlt_; have := aa_.eq; omega)
  have Z5 : Blk w5_ B5 (digC x) 32 := tb_.at_
  have n1_5 : B1 ≠ B5 := by have := Z1.lt; have := aa_.eq; omega
  have n5_1 : B5 ≠ B1 := Ne.symm n1_5
  replace Z1 := Z1.up Xa_
  replace hO := hO.up Xa_
  replace X := X.trans Xa_
  clear Xa_ aa_ tb_
  repeat' (first | refine ZzA ?_ | refine RunL.ev Tryz.tOk rfl rfl rfl ?_ | refine RunL.evV rfl rfl rfl (OpV.loadN Tryz.tOk rfl rfl rfl rfl (Blk.row Z5)) ?_ | refine ZzR ?_ | refine ZzN ?_)
  refine RunL.call rfl rfl rfl (dhash_ok x _) ?_
  rintro _ _ ⟨rfl, Xa_⟩
  replace Z1 := Z1.up Xa_
  replace hO := hO.up Xa_
  replace X := X.trans Xa_
  clear Xa_
  skip
  refine RunL.ex rfl rfl rfl (OpE.buildSl Tryz.tOk [.agg (rowT x).toArray] rfl rfl rfl rfl rfl rfl (by simp [Value.cells])) ?_
  rintro _ w_ ⟨B_, rfl, a_⟩
  have hx1 : LTx w_ (.slice (some ⟨B_, 0, none⟩) 1 1) [x] := (isSl_added (n := 1) (sz := 4) a_ rfl)
  replace Z1 := Z1.up a_.ext
  replace hO := hO.up a_.ext
  replace X := X.trans a_.ext
  clear a_
  skip
  have l1 := Z1.lt
  refine RunL.ex rfl rfl rfl (OpE.append' Tryz.tOk rfl rfl rfl rfl rfl rfl hO hx1 (flat_plain encT' [x]) (by show _ * 56 ≤ _; simp only [List.length_singleton]; omega) (by simp only [List.length_singleton]; omega) X.size) ?_
  rintro u' u5 ⟨O5, E5, hown⟩
  have hne5 : ∀ k, u'.ownBlock = some k → k ≠ B1 := fun k hk e => hne _ (hown _ hk (by omega)) e
  replace X : Ext w u5 := X.write E5 (by intro k hk hlt; have := ownsRow_ge hO hk; omega)
  replace Z1 := Z1.ext E5 (fun h => hne _ h rfl)
  clear E5 hown hx1 hO
  repeat' (first | (with_reducible refine RunLN.chk ?_; refine RunLN.int (by (first | (refine wr_i64 ?_ ?_; omega; omega) | rfl)) ?_) | refine ZzA ?_ | refine RunL.ev Tryz.tOk rfl rfl rfl ?_ | refine ZzR ?_ | refine ZzN ?_ | refine ZzI ?_)
  exact RunE.weaken (by repeat (first | exact Sub.nil _ | refine Sub.cons rfl ?_)) (next _ _ (by rw [List.length_append, flat_append]; exact O5) hne5 X Z1)
 ·obtain rfl : i = d.seen.length := by omega
  rw [List.take_length] at hO
  obtain ⟨dy, cy, rfl⟩ := isSl_slice (isSl_own hO)
  have hvs : LTx w3 (.slice dy d.seen.length cy) d.seen := isSl_own hO
  clear again hO hne
  replace hb := hb.up X
  have clist := dlist_ok
  have cenc := encode_ok
  repeat' (first | (with_reducible refine RunLN.decF ?_ ?_; focus omega) | refine RunL.ev Tryz.tOk rfl rfl rfl ?_ | refine ZzF rfl rfl ?_ | refine ZzQ ?_ | refine ZzR ?_ | refine ZzN ?_ | refine RunE.exit rfl ?_)
  refine RunE.draw (fun _ => False) mix ?_
  intro wd_ Xd_
  repeat' (first | (with_reducible refine AsyN.chk ?_; refine AsyN.int (by (rfl)) ?_) | refine AsyN.any ?_ | refine Asy.ev Tryz.tOk rfl rfl rfl ?_ | refine Asy.evV rfl rfl rfl rfl (fun _ X_ => OpV.load1 Tryz.tOk rfl rfl rfl (Blk.cell (Z1.up (Xd_.trans X_)) rfl)) ?_ | refine Asy.callN rfl rfl rfl (fun _ _ => (dnumber_ok _ _)) ?_ | refine Asy.callN rfl rfl rfl (fun _ _ => (dhash_ok _ _)) ?_ | refine Asy.callN rfl rfl rfl (fun _ _ => (dlist_ok _ _ _ _)) ?_ | refine Asy.evV rfl rfl rfl rfl (fun _ X_ => OpV.loadN Tryz.tOk rfl rfl rfl rfl ((row_prev (Blk.row Z1)).up (Xd_.trans X_))) ?_ | refine Asy.evV rfl rfl rfl rfl (fun _ X_ => (OpV.b2sSl (l := d.data) Tryz.tOk rfl rfl rfl rfl (hb.up (Xd_.trans X_)))) ?_)
  refine Asy.sat0 (fun q w' => ∃ B, q = .slice (some ⟨B, 0, none⟩) 6 6 ∧ IsSl w' 4 q 6 (rowN d.person ++ rowN d.no ++ rowN d.at_ ++ rowT d.prev ++ rowL (.slice dy d.seen.length cy) ++ rowX d.data)) rfl rfl rfl rfl (fun q w' w'' _ e h => by obtain ⟨B, h1, h2⟩ := h; exact ⟨B, h1, h2.up e⟩) (fun w' _ => ?_) ?_
  ·refine OpE.mono (OpE.buildSl Tryz.tOk [.agg (rowN d.person).toArray, .agg (rowN d.no).toArray, .agg (rowN d.at_).toArray, .agg (rowT d.prev).toArray, .agg (rowL (.slice dy d.seen.length cy)).toArray, .agg (rowX d.data).toArray] rfl rfl rfl rfl rfl rfl (by simp [Value.cells])) ?_ fun _ _ h => h
   rintro _ w'' ⟨B, rfl, a⟩
   exact ⟨a.ext, B, rfl, isSl_added (n := 6) (sz := 4) a rfl⟩
  refine Asy.sat1 0 (fun q w' => ∃ B, q = .agg (rowL (.slice (some ⟨B, 0, none⟩) 6 6)).toArray ∧ IsSl w' 4 (.slice (some ⟨B, 0, none⟩) 6 6) 6 (rowN d.person ++ rowN d.no ++ rowN d.at_ ++ rowT d.prev ++ rowL (.slice dy d.seen.length cy) ++ rowX d.data)) rfl rfl rfl rfl rfl rfl (fun q w' w'' _ e h => by obtain ⟨B, h1, h2⟩ := h; exact ⟨B, h1, h2.up e⟩) (fun w' q e hx => ?_) ?_
  ·obtain ⟨B, rfl, h2⟩ := hx
   refine OpE.mono (OpE.call rfl (clist _ _ _ _)) ?_ fun _ _ h => h
   rintro _ w'' ⟨rfl, h⟩
   exact ⟨h, B, rfl, h2.up h⟩
  refine Asy.sat1 0 (fun q w' => ∃ r, q = .tuple #[r, .int .i64 0] ∧ w'.ownsRow w.heap.size 5 1 r (textD d).length (bytesV (textD d))) rfl rfl rfl rfl rfl rfl (fun q w' w'' _ e h => by obtain ⟨r, h1, h2⟩ := h; exact ⟨r, h1, h2.up e⟩) (fun w' q e hx => ?_) ?_
  ·obtain ⟨B, rfl, h2⟩ := hx
   refine OpE.mono (OpE.call rfl (cenc _ _ w' (deed_in hf (hvs.up (Xd_.trans e)) h2) hdep (Nat.le_trans henc (by decide)))) ?_ fun _ _ h => h
   rintro _ w'' ⟨r, rfl, O, h⟩
   exact ⟨h, r, rfl, ownsRow_base O (Nat.le_trans X.size (Xd_.trans e).size)⟩
  refine Asy.sat1P Tryz.tOk 0 (fun q w' => ∃ r, q = .tuple #[r, .int .i64 0] ∧ w'.ownsRow w.heap.size 5 1 r (textD d).length (bytesV (textD d))) rfl rfl rfl rfl rfl rfl (fun q w' w'' _ e h => by obtain ⟨r, h1, h2⟩ := h; exact ⟨r, h1, h2.up e⟩) (fun w' q e hx => ⟨q, rfl, hx⟩) ?_
  refine Asy.sat1P Tryz.tOk 0 (fun q w' => w'.ownsRow w.heap.size 5 1 q (textD d).length (bytesV (textD d))) rfl rfl rfl rfl rfl rfl (fun q w' w'' _ e h => h.up e) (fun w' q e hx => by obtain ⟨r, rfl, h⟩ := hx; exact ⟨r, rfl, h⟩) ?_
  refine Asy.val1P Tryz.tOk 1 (v := .int .i64 0) rfl rfl rfl rfl rfl rfl (fun w' q e hx => by obtain ⟨r, rfl, h⟩ := hx; rfl) ?_
  refine Asy.sat1P Tryz.tOk 0 (fun q w' => w'.ownsRow w.heap.size 5 1 q (textD d).length (bytesV (textD d))) rfl rfl rfl rfl rfl rfl (fun q w' w'' _ e h => h.up e) (fun w' q e hx => ⟨q, rfl, hx⟩) ?_
  refine Asy.tail (by kernel_rfl) ?_
  intro we_ Xe_
  simp only [satsAll]
  rintro rt hR _ - _ - _ - _ - _ -
  replace X := X.trans (Xd_.trans Xe_)
  clear Xd_ Xe_
  repeat' (first | (with_reducible refine RunLN.chk ?_; refine RunLN.int (by (rfl)) ?_) | refine ZzA ?_ | refine RunL.ev Tryz.tOk rfl rfl rfl ?_ | refine ZzQ ?_ | refine ZzR ?_ | refine ZzN ?_)
  exact RunE.retFn Tryz.func54 (.tmp rfl .nil) ⟨hR, X⟩
end Go.Sg
end
section
/- Building a deed. -/
set_option maxRecDepth 4000
namespace Go.Sg
open Go.Rn Go.Dee Go.Rec Go.RowKit Go.Proofs
theorem build_st {T : Tab} {t : TypeId} {fs : List (Nat × Nat × Bool)} {sz b : Nat} {z : List Value} {a u : Bool} {env : Env} {parts : Array (Nat × Operand)} {ps : List (Nat × Value)} {l : List Value} (ht : T.get t = some ⟨.st fs, sz, b, z, a, u⟩) (hp : evParts env parts.toList = some ps)
  (hf : fillL (fun i => (fs[i]?).map fun (o, s, _) => (o, s)) z ps = some l) : evalOp T env (.build t parts) = some (.agg l.toArray) := by
 unfold evalOp
 simp only [ht, hp, hf, force_eq]
theorem build_deed {env : Env} {x0 x1 x2 x3 x4 x5 : Operand} {p n t : Int} {g : Dg} {sn : List Dg} {dt : List UInt8} {du dv : Option Addr} {nu cu nv cv : Nat} (h0 : evO env x0 = some (.int .i64 p)) (h1 : evO env x1 = some (.int .i64 n)) (h2 : evO env x2 = some (.int .i64 t))
  (h3 : evO env x3 = some (.agg (digC g).toArray)) (h4 : evO env x4 = some (.slice du nu cu)) (h5 : evO env x5 = some (.slice dv nv cv)) :
  evalOp Tryz.T env (.build 38 #[(0, x0), (1, x1), (2, x2), (3, x3), (4, x4), (5, x5)]) = some (.agg (dCells ⟨p, n, t, g, sn, dt, 0, 0⟩ (.slice du nu cu) (.slice dv nv cv)).toArray) := by
 have e1 : evParts env [(0, x0), (1, x1), (2, x2), (3, x3), (4, x4), (5, x5)] = some [(0, .int .i64 p), (1, .int .i64 n), (2, .int .i64 t), (3, .agg (digC g).toArray), (4, .slice du nu cu), (5, .slice dv nv cv)] := by
  simp only [evParts, h0, h1, h2, h3, h4, h5]
 exact build_st rfl e1 (by kernel_rfl)
end Go.Sg
end
section
/- sign: Verify. -/
set_option maxRecDepth 4000
namespace Go.Sg
open Go.Rn Go.NT Go.Sha Go.Cod Go.Proofs
attribute [local irreducible] Go.Rn.RunL Go.Rn.RunE Go.Rn.Asy Go.Rn.OpV Go.Rn.OpE Go.Rn.ExecE

set_option maxRecDepth 4000 in
set_option maxHeartbeats 2000000 in
set_option maxRecDepth 4000 in
theorem verify_ok (key E S : Int) (v : Value) (b : List UInt8) (w : World) (hk : -9223372036854775808 ≤ key ∧ key < 9223372036854775808) (hE : -9223372036854775808 ≤ E ∧ E < 9223372036854775808) (hS : -9223372036854775808 ≤ S ∧ S < 9223372036854775808)
  (hv : IsSl w 1 v b.length (bytesV b)) (hb : b.length ≤ 800000) (hS0 : Row w 0 0 (vals init8.l)) (hkT : Row w 1 0 (vals kTab)) :
  Rets Tryz.prog 77 [.int .i64 key, v, .agg #[.int .i64 E, .int .i64 S]] w fun r w' => r = .bool (verS key b E S) ∧ Ext w w' := by
 refine RetsX.of (nt := 52) Tryz.func77 (by kernel_rfl) rfl rfl (by simp) (by simp only [argEnv]; rfl) ?_
 repeat (first | refine ZzQ ?_ | refine ZzR ?_)
 refine RunL.box rfl rfl rfl fun B5 w1 a1 => ?_
 have Z1 : Blk w1 B5 [.int .i64 E, .int .i64 S] 36 := a1.at_
 have X1 := a1.ext
 clear a1
 by_cases h1 : E < 0 ∨ S < 0
 ·have hno : sigOk key E S = false := by
   unfold sigOk; rw [decide_eq_false (by omega)]; rfl
  repeat (first | refine RunL.pureB Tryz.tOk _ rfl rfl rfl (by exact decide_eq_true (by split; omega; omega)) ?_ | refine RunL.pureI Tryz.tOk rfl rfl rfl (by (rfl)) ?_ | refine RunL.pure Tryz.tOk rfl rfl rfl ?_ | refine RunL.unwantedD rfl rfl ?_ | refine RunL.val rfl rfl rfl (OpV.load1 Tryz.tOk rfl rfl rfl (Blk.cell Z1 rfl)) ?_ | refine ZzQ ?_ | refine ZzR ?_ | refine ZzN ?_)
  refine ZzT rfl rfl ?_
  repeat (first | refine RunL.pure Tryz.tOk rfl rfl rfl ?_ | refine ZzQ ?_ | refine ZzR ?_ | refine ZzN ?_)
  refine RunE.retFn Tryz.func77 (.tmp rfl .nil) ⟨?_, X1⟩
  simp [oneOr, verS, hno]
 by_cases h2 : 1073741789 ≤ E ∨ 1073741789 ≤ S
 ·have hno : sigOk key E S = false := by
   unfold sigOk; rw [decide_eq_false (by omega)]; rfl
  repeat (first | refine RunL.pureB Tryz.tOk _ rfl rfl rfl (by exact decide_eq_false (by split; omega; omega)) ?_ | refine RunL.pureB Tryz.tOk _ rfl rfl rfl (by exact decide_eq_true (by split; omega; omega)) ?_ | refine RunL.pureI Tryz.tOk rfl rfl rfl (by (rfl)) ?_ | refine RunL.pure Tryz.tOk rfl rfl rfl ?_ | refine RunL.unwantedD rfl rfl ?_ | refine RunL.val rfl rfl rfl (OpV.load1 Tryz.tOk rfl rfl rfl (Blk.cell Z1 rfl)) ?_ | refine ZzQ ?_ | refine ZzR ?_ | refine ZzN ?_)
  refine ZzT rfl rfl ?_
  repeat (first | refine RunL.pure Tryz.tOk rfl rfl rfl ?_ | refine ZzQ ?_ | refine ZzR ?_ | refine ZzN ?_)
  refine RunE.retFn Tryz.func77 (.tmp rfl .nil) ⟨?_, X1⟩
  simp [oneOr, verS, hno]
 repeat (first | refine RunL.pureB Tryz.tOk _ rfl rfl rfl (by exact decide_eq_false (by split; omega; omega)) ?_ | refine RunL.pureI Tryz.tOk rfl rfl rfl (by (rfl)) ?_ | refine RunL.pure Tryz.tOk rfl rfl rfl ?_ | refine RunL.val rfl rfl rfl (OpV.load1 Tryz.tOk rfl rfl rfl (Blk.cell Z1 rfl)) ?_ | refine ZzQ ?_ | refine ZzR ?_ | refine ZzN ?_)
 refine RunL.call rfl rfl rfl (valid_ok key _) ?_
 rintro _ _ ⟨rfl, rfl⟩
 cases hvk : validS key with
 | false =>
  have hno : sigOk key E S = false := by
   unfold sigOk; rw [hvk, Bool.and_false]
  repeat (first | refine RunL.pure Tryz.tOk rfl rfl rfl ?_ | refine ZzN ?_)
  refine ZzT rfl rfl ?_
  repeat (first | refine RunL.pure Tryz.tOk rfl rfl rfl ?_ | refine ZzQ ?_ | refine ZzR ?_ | refine ZzN ?_)
  refine RunE.retFn Tryz.func77 (.tmp rfl .nil) ⟨?_, X1⟩
  simp [oneOr, verS, hno]
 | true =>
  have hyes : sigOk key E S = true := by
   unfold sigOk; rw [hvk, decide_eq_true (by omega)]; rfl
  have hkb := validS_bd hvk
  repeat (first | refine RunL.pure Tryz.tOk rfl rfl rfl ?_ | refine ZzN ?_)
  refine ZzF rfl rfl ?_
  repeat (first | refine ZzQ ?_ | refine ZzK ?_)
  have hmb := mulC_bd (powC 4 S) (powC key (-E))
  have hp1 := fun w => power_ok 4 S w
  have hp2 := fun w => power_ok key (-E) w
  have hp3 := fun w => mul_ok (powC 4 S) (powC key (-E)) w
  have hver : verS key b E S = (E == chal (mulC (powC 4 S) (powC key (-E))) key b) := by unfold verS; rw [hyes]; rfl
  generalize hR : mulC (powC 4 S) (powC key (-E)) = R at *
  generalize grpE (validS (powC 4 S) && validS (powC key (-E))) = ee at hp3
  generalize powC 4 S = p1 at *
  generalize powC key (-E) = p2 at *
  refine RunE.draw (fun _ => False) mix ?_
  intro w2 X2
  have Z2 := Z1.ext X2 id
  repeat (first | refine Asy.pure Tryz.tOk rfl rfl rfl ?_)
  refine Asy.v rfl rfl rfl rfl (fun w' X' => OpV.load1 Tryz.tOk rfl rfl rfl (Blk.cell (Z2.ext X' id) rfl)) ?_
  refine Asy.val rfl rfl rfl rfl (fun _ _ => OpE.call rfl (hp1 _)) ?_
  repeat (first | refine Asy.pureI Tryz.tOk rfl rfl rfl (by (rfl)) ?_ | refine Asy.pure Tryz.tOk rfl rfl rfl ?_)
  refine Asy.v rfl rfl rfl rfl (fun w' X' => OpV.load1 Tryz.tOk rfl rfl rfl (Blk.cell (Z2.ext X' id) rfl)) ?_
  repeat (first | refine Asy.pureI Tryz.tOk rfl rfl rfl (by (first | exact wr_i64 (by omega) (by omega) | rfl)) ?_)
  refine Asy.val rfl rfl rfl rfl (fun _ _ => OpE.call rfl (hp2 _)) ?_
  refine Asy.val rfl rfl rfl rfl (fun _ _ => OpE.keep (OpE.call rfl (hp3 _))) ?_
  repeat (first | refine Asy.pureI Tryz.tOk rfl rfl rfl (by (rfl)) ?_ | refine Asy.pure Tryz.tOk rfl rfl rfl ?_)
  refine Asy.tail (by kernel_rfl) ?_
  intro w3 X3
  simp only [satsAll]
  have Y3 := (X1.trans X2).trans X3
  have Z3 := Z2.ext X3 id
  repeat (first | refine ZzQ ?_ | refine ZzN ?_)
  refine RunE.draw (fun _ => False) mix ?_
  intro w4 X4
  have Z4 := Z3.ext X4 id
  have Y4 := Y3.trans X4
  repeat (first | refine Asy.pure Tryz.tOk rfl rfl rfl ?_)
  refine Asy.v rfl rfl rfl rfl (fun w' X' => OpV.load1 Tryz.tOk rfl rfl rfl (Blk.cell (Z4.ext X' id) rfl)) ?_
  repeat (first | refine Asy.pureI Tryz.tOk rfl rfl rfl (by (rfl)) ?_ | refine Asy.pure Tryz.tOk rfl rfl rfl ?_)
  refine Asy.sat0 (fun u w' => IsSl w' 1 u 3 [.iface 3 (.int .i64 R), .iface 3 (.int .i64 key), .iface 34 v]) rfl rfl rfl rfl (fun u w' w'' _ e h => h.extE e) (fun w' _ => ?_) ?_
  ·refine OpE.mono (OpE.buildSl Tryz.tOk [.iface 3 (.int .i64 R), .iface 3 (.int .i64 key), .iface 34 v] rfl rfl rfl rfl rfl rfl (by simp [Value.cells])) ?_ fun _ _ h => h
   rintro _ w'' ⟨B, rfl, a⟩; exact ⟨a.ext, isSl_added (n := 3) (sz := 1) a rfl⟩
  refine Asy.sat1 0 (fun u w' => IsSl w' 1 u (CV.list [.int R, .int key, .text b]).enc.length (bytesV (CV.list [.int R, .int key, .text b]).enc)) rfl rfl rfl rfl rfl rfl (fun u w' w'' _ e h => h.extE e) (fun w' x e hx => ?_) ?_
  ·refine OpE.mono (OpE.call rfl (list_ok [.int R, .int key, .text b] _ _ w' hx (args3 (.int (by omega)) (.int (by omega)) (.text (hv.extE (Y4.trans e)) (by omega))) (by simp) (enc3_le _ _ b (by omega) (by omega) hb))) ?_ fun _ _ h => h
   rintro u w'' ⟨h1, h2⟩; exact ⟨h2, isSl_own h1⟩
  refine Asy.val1 0 (v := .int .i64 (hashS [115, 105, 103, 110] (CV.list [.int R, .int key, .text b]).enc)) rfl rfl rfl rfl rfl rfl (fun w' x e hx => ?_) ?_
  ·exact OpE.call rfl (hash_ok ⟨#[115, 105, 103, 110]⟩ x _ w' (by decide) hx (enc3_le _ _ b (by omega) (by omega) hb) (hS0.extE (Y4.trans e)) (hkT.extE (Y4.trans e)))
  repeat (first | refine Asy.pure Tryz.tOk rfl rfl rfl ?_)
  refine Asy.tail (by kernel_rfl) ?_
  intro w5 X5
  simp only [satsAll]
  rintro _ _ _ _
  repeat (first | refine ZzN ?_)
  refine RunE.retFn Tryz.func77 (.tmp rfl .nil) ⟨?_, Y4.trans X5⟩
  simp only [oneOr, hver]
  rfl
end Go.Sg
end
section
/- Deeds: Id, Make, right, fine, Right. -/
set_option maxRecDepth 4000
namespace Go.Sg
open Go.Rn Go.Proofs Go.Dee Go.Rec Go.RowKit Go.Sha Go.Cod Go.NT
attribute [local irreducible] Go.Rn.RetsX Go.Rn.RunLN Go.Rn.AsyN Go.Rn.RunL Go.Rn.RunE Go.Rn.Asy Go.Rn.OpV Go.Rn.OpE Go.Rn.ExecE
def intC' (n : Int) : List Value := [.int .i64 n]
theorem encIn : EncOk intC' 1 := ⟨fun _ => rfl, fun _ => rfl, by decide⟩
abbrev LIn (w : World) (v : Value) (l : List Int) : Prop := IsL w intC' 1 v l
abbrev nilV : Value := .slice none 0 0
theorem dtag_ok (d : Deed) (v : Value) (w : World) (hv : LBy w v (textD d)) (hf : formedD d = true) (hS : Row w 0 0 (vals init8.l)) (hkT : Row w 1 0 (vals kTab)) :
  Rets Tryz.prog 53 [.string ⟨#[100, 101, 101, 100]⟩, v] w fun r w' => r = .agg (digC (idD d)).toArray ∧ Ext w w' := by
 have h := tagged_ok ⟨#[100, 101, 101, 100]⟩ v (textD d) w (by decide) hv (Nat.le_trans (text_len hf) (by decide)) hS hkT
 have e : digC (idD d) = bytesV (tagged deedB (textD d)) := digC_eq (idD d)
 rw [e]
 exact h
set_option maxRecDepth 4000 in
theorem dId_ok (d : Deed) (u v : Value) (w : World) (hs : LDg w u d.seen) (hb : LBy w v d.data) (hl : d.seen.length < 9223372036854775808) (hl' : d.data.length < 9223372036854775808) (hS : Row w 0 0 (vals init8.l)) (hkT : Row w 1 0 (vals kTab)) :
  Rets Tryz.prog 39 [.agg (dCells d u v).toArray] w fun r w' => r = .tuple #[.agg (digC (idG d)).toArray, .int .i64 (idE d)] ∧ Ext w w' := by
 have c1 := fun w h1 h2 => dformed_ok d u v w h1 h2 hl hl'
 unfold idG idE
 cases hf : formedD d with
 | false =>
  rw [hf] at c1
  refine RetsX.of (nt := 11) Tryz.func39 (by kernel_rfl) rfl rfl (by simp) (by simp only [argEnv]; rfl) ?_
  have X := ExtB.refl (fun _ => False) w
  repeat' (first | refine ZzQ ?_ | refine ZzR ?_)
  refine RunL.box rfl rfl rfl fun B1 w1_ a_ => ?_
  have Z1 : Blk w1_ B1 (dCells d u v) 38 := a_.at_
  have gB1 := a_.ge X
  replace X := X.trans a_.ext
  clear a_
  skip
  refine RunL.alloc Tryz.tOk rfl rfl rfl fun B2 w2_ a_ => ?_
  have Z2 : Blk w2_ B2 (digC zeroG) 32 := a_.at_
  have gB2 := a_.ge X
  have n1_2 : B1 ≠ B2 := by have := Z1.lt; have := a_.eq; omega
  have n2_1 : B2 ≠ B1 := Ne.symm n1_2
  replace Z1 := Z1.up a_.ext
  replace X := X.trans a_.ext
  clear a_
  repeat' (first | (with_reducible refine RunLN.chk ?_; refine RunLN.int (by (rfl)) ?_) | refine ZzA ?_ | refine RunL.ev Tryz.tOk rfl rfl rfl ?_ | refine RunL.evV rfl rfl rfl (OpV.loadN Tryz.tOk rfl rfl rfl rfl (Blk.row Z1)) ?_ | refine ZzQ ?_ | refine ZzR ?_ | refine ZzN ?_)
  refine RunL.call rfl rfl rfl (c1 _ (hs.up X) (hb.up X)) ?_
  rintro _ _ ⟨rfl, Xa_⟩
  replace Z2 := Z2.up Xa_
  replace X := X.trans Xa_
  clear Xa_
  clear Z1
  repeat' (first | with_reducible refine ZzP rfl ?_ | refine ZzA ?_ | refine RunL.ev Tryz.tOk rfl rfl rfl ?_ | refine RunL.evV rfl rfl rfl (OpV.loadN Tryz.tOk rfl rfl rfl rfl (Blk.row Z2)) ?_ | refine ZzT rfl rfl ?_ | refine ZzQ ?_ | refine ZzR ?_ | refine ZzN ?_)
  refine RunL.storeW (vs := digC zeroG) Tryz.tOk rfl rfl rfl rfl rfl Z2 rfl rfl fun w_ t_ => ?_
  replace X := X.own t_.ext gB2
  replace Z2 : Blk w_ B2 (digC zeroG) 32 := t_.at_
  clear t_
  repeat' (first | (with_reducible refine RunLN.chk ?_; refine RunLN.int (by (rfl)) ?_) | refine RunL.ev Tryz.tOk rfl rfl rfl ?_ | refine ZzN ?_)
  exact RunE.retFn Tryz.func39 (.cell rfl (.agg Tryz.tOk rfl rfl rfl Z2.row) (.tmp rfl .nil)) ⟨rfl, X⟩
 | true =>
  rw [hf] at c1
  have c2 := fun w h1 h2 => dtext_ok d u v w h1 h2 hf
  have c3 := fun r w h => dtag_ok d r w h hf
  refine RetsX.of (nt := 11) Tryz.func39 (by kernel_rfl) rfl rfl (by simp) (by simp only [argEnv]; rfl) ?_
  have X := ExtB.refl (fun _ => False) w
  repeat' (first | refine ZzQ ?_ | refine ZzR ?_)
  refine RunL.box rfl rfl rfl fun B1 w1_ a_ => ?_
  have Z1 : Blk w1_ B1 (dCells d u v) 38 := a_.at_
  have gB1 := a_.ge X
  replace X := X.trans a_.ext
  clear a_
  skip
  refine RunL.alloc Tryz.tOk rfl rfl rfl fun B2 w2_ a_ => ?_
  have Z2 : Blk w2_ B2 (digC zeroG) 32 := a_.at_
  have gB2 := a_.ge X
  have n1_2 : B1 ≠ B2 := by have := Z1.lt; have := a_.eq; omega
  have n2_1 : B2 ≠ B1 := Ne.symm n1_2
  replace Z1 := Z1.up a_.ext
  replace X := X.trans a_.ext
  clear a_
  repeat' (first | (with_reducible refine RunLN.chk ?_; refine RunLN.int (by (rfl)) ?_) | refine ZzA ?_ | refine RunL.ev Tryz.tOk rfl rfl rfl ?_ | refine RunL.evV rfl rfl rfl (OpV.loadN Tryz.tOk rfl rfl rfl rfl (Blk.row Z1)) ?_ | refine ZzQ ?_ | refine ZzR ?_ | refine ZzN ?_)
  refine RunL.call rfl rfl rfl (c1 _ (hs.up X) (hb.up X)) ?_
  rintro _ _ ⟨rfl, Xa_⟩
  replace Z1 := Z1.up Xa_
  replace Z2 := Z2.up Xa_
  replace X := X.trans Xa_
  clear Xa_
  repeat' (first | with_reducible refine ZzG rfl ?_ | refine ZzA ?_ | refine RunL.ev Tryz.tOk rfl rfl rfl ?_ | refine RunL.evV rfl rfl rfl (OpV.loadN Tryz.tOk rfl rfl rfl rfl (Blk.row Z1)) ?_ | refine ZzF rfl rfl ?_ | refine ZzQ ?_ | refine ZzR ?_ | refine ZzN ?_ | refine ZzK ?_)
  refine RunL.call rfl rfl rfl (c2 _ (hs.up X) (hb.up X)) ?_
  rintro r w5 ⟨O5, Xa_⟩
  have O6 : LBy w5 r (textD d) := isSl_own O5
  clear O5
  replace Z2 := Z2.up Xa_
  replace X := X.trans Xa_
  clear Xa_ Z1
  skip
  refine RunL.call rfl rfl rfl (c3 r _ O6 (hS.up X) (hkT.up X)) ?_
  rintro _ _ ⟨rfl, Xa_⟩
  replace Z2 := Z2.up Xa_
  replace X := X.trans Xa_
  clear Xa_
  skip
  refine RunL.storeW (vs := digC (idD d)) Tryz.tOk rfl rfl rfl rfl rfl Z2 rfl rfl fun w_ t_ => ?_
  replace X := X.own t_.ext gB2
  replace Z2 : Blk w_ B2 (digC (idD d)) 32 := t_.at_
  clear t_
  repeat' (first | (with_reducible refine RunLN.chk ?_; refine RunLN.int (by (rfl)) ?_) | refine RunL.ev Tryz.tOk rfl rfl rfl ?_ | refine ZzN ?_)
  exact RunE.retFn Tryz.func39 (.cell rfl (.agg Tryz.tOk rfl rfl rfl Z2.row) (.tmp rfl .nil)) ⟨rfl, X⟩
theorem dkeys_ok (ks : List Int) (v : Value) (w : World) (hv : LIn w v ks) (hl : ks.length < 9223372036854775808) : Rets Tryz.prog 50 [v] w fun r w' => r = .bool (keysD ks) ∧ Ext w w' := by
 refine RetsX.of (nt := 22) Tryz.func50 (by kernel_rfl) rfl rfl (by simp) (by simp only [argEnv]; rfl) ?_
 have X := ExtB.refl (fun _ => False) w
 repeat' (first | with_reducible refine ZzG rfl ?_ | (with_reducible refine RunLN.chk ?_; refine RunLN.int (by (rfl)) ?_) | refine ZzA ?_ | refine RunL.ev Tryz.tOk rfl rfl rfl ?_ | refine RunL.evV rfl rfl rfl (OpV.lenSl Tryz.tOk rfl rfl hv) ?_ | refine ZzQ ?_ | refine ZzR ?_ | refine ZzN ?_ | refine ZzB ?_)
 refine RunE.loop (ι := Nat) (fun s => [(0, v), (2, .bool false), (5, v), (6, .int .i64 (ks.length : Int)), (7, .int .i64 (s : Int))])
  (fun s w' => s ≤ ks.length ∧ ks.all (fun k => k == 0 || validS k) = (ks.drop s).all (fun k => k == 0 || validS k) ∧ w' = w) (fun s => ks.length - s) 0 (by repeat (first | exact Sub.nil _ | refine Sub.cons rfl ?_)) ⟨Nat.zero_le _, rfl, rfl⟩ ?_
 rintro i w3 ⟨hi, hall, hw3⟩ again
 subst hw3
 by_cases hlt : i < ks.length
 ·obtain ⟨b1, o1, c1, rfl, hr1, -⟩ := isL_held hv hlt
  obtain ⟨x, hx⟩ : ∃ x, ks[i]? = some x := ⟨_, List.getElem?_eq_getElem hlt⟩
  have hrx := flat_row encIn hr1 hx
  have hd : ks.drop i = x :: ks.drop (i + 1) := by
   obtain ⟨hi, e⟩ := List.getElem?_eq_some_iff.1 hx
   rw [← e, List.drop_eq_getElem_cons hi]
  rw [hd, List.all_cons] at hall
  by_cases h0 : x = 0
  ·have hq : (x == 0 || validS x) = true := by rw [h0]; rfl
   rw [hq, Bool.true_and] at hall
   repeat' (first | with_reducible refine ZzG rfl ?_ | (with_reducible refine RunLN.decT ?_ ?_; focus omega) | (with_reducible refine RunLN.neF ?_ ?_; focus omega) | (with_reducible refine RunLN.chk ?_; refine RunLN.int (by (first | (refine wr_i64 ?_ ?_; omega; omega) | rfl)) ?_) | refine ZzA ?_ | refine RunL.ev Tryz.tOk rfl rfl rfl ?_ | refine RunL.unwantedD rfl rfl ?_ | refine RunL.evV rfl rfl rfl (OpV.load1 Tryz.tOk rfl rfl rfl ((hrx.up X) 0 _ rfl)) ?_ | refine RunL.evV rfl rfl rfl (OpV.indexS Tryz.tOk _ rfl rfl rfl rfl (by omega)) ?_ | refine ZzT rfl rfl ?_ | refine ZzF rfl rfl ?_ | refine ZzQ ?_ | refine ZzR ?_ | refine ZzN ?_ | refine ZzB ?_ | refine ZzI ?_ | refine ZzK ?_)
   exact RunE.weaken (by repeat (first | exact Sub.nil _ | refine Sub.cons rfl ?_)) (again (i + 1) _ (by omega) ⟨by omega, hall, rfl⟩)
  ·have h0' : (x == 0) = false := by simpa using h0
   cases hvx : validS x with
   | true =>
    rw [h0', hvx] at hall
    have cv := fun w => valid_ok x w
    simp only [hvx] at cv
    repeat' (first | with_reducible refine ZzP rfl ?_ | with_reducible refine ZzG rfl ?_ | (with_reducible refine RunLN.decT ?_ ?_; focus omega) | (with_reducible refine RunLN.neT ?_ ?_; focus omega) | (with_reducible refine RunLN.chk ?_; refine RunLN.int (by (first | (refine wr_i64 ?_ ?_; omega; omega) | rfl)) ?_) | refine ZzA ?_ | refine RunL.ev Tryz.tOk rfl rfl rfl ?_ | refine RunL.evV rfl rfl rfl (OpV.load1 Tryz.tOk rfl rfl rfl ((hrx.up X) 0 _ rfl)) ?_ | refine RunL.callN rfl rfl rfl (cv _) ?_ | refine RunL.evV rfl rfl rfl (OpV.indexS Tryz.tOk _ rfl rfl rfl rfl (by omega)) ?_ | refine ZzT rfl rfl ?_ | refine ZzF rfl rfl ?_ | refine ZzQ ?_ | refine ZzR ?_ | refine ZzN ?_ | refine ZzB ?_ | refine ZzI ?_ | refine ZzK ?_)
    exact RunE.weaken (by repeat (first | exact Sub.nil _ | refine Sub.cons rfl ?_)) (again (i + 1) _ (by omega) ⟨by omega, by rw [hall]; rfl, rfl⟩)
   | false =>
    rw [h0', hvx] at hall
    have cv := fun w => valid_ok x w
    simp only [hvx] at cv
    repeat' (first | with_reducible refine ZzP rfl ?_ | with_reducible refine ZzG rfl ?_ | (with_reducible refine RunLN.decT ?_ ?_; focus omega) | (with_reducible refine RunLN.neT ?_ ?_; focus omega) | (with_reducible refine RunLN.chk ?_; refine RunLN.int (by (rfl)) ?_) | refine ZzA ?_ | refine RunL.ev Tryz.tOk rfl rfl rfl ?_ | refine RunL.evV rfl rfl rfl (OpV.load1 Tryz.tOk rfl rfl rfl ((hrx.up X) 0 _ rfl)) ?_ | refine RunL.callN rfl rfl rfl (cv _) ?_ | refine RunL.evV rfl rfl rfl (OpV.indexS Tryz.tOk _ rfl rfl rfl rfl (by omega)) ?_ | refine ZzT rfl rfl ?_ | refine ZzQ ?_ | refine ZzR ?_ | refine ZzN ?_ | refine ZzB ?_ | refine ZzK ?_)
    exact RunE.retFn Tryz.func50 (.tmp rfl .nil) ⟨by unfold keysD; rw [hall]; rfl, X⟩
 ·obtain rfl : i = ks.length := by omega
  rw [List.drop_length] at hall
  clear again
  have hk : keysD ks = decide ((ks.length : Int) ≤ 64) := by
   unfold keysD; rw [hall]
   rw [List.all_nil, Bool.true_and, Bool.eq_iff_iff, decide_eq_true_eq, decide_eq_true_eq]; omega
  repeat' (first | (with_reducible refine RunLN.decF ?_ ?_; focus omega) | (with_reducible refine RunLN.chk ?_; refine RunLN.int (by (rfl)) ?_) | refine ZzA ?_ | refine RunL.ev Tryz.tOk rfl rfl rfl ?_ | refine RunL.evV rfl rfl rfl (OpV.lenSl Tryz.tOk rfl rfl hv) ?_ | refine ZzF rfl rfl ?_ | refine ZzQ ?_ | refine ZzR ?_ | refine ZzN ?_ | refine RunE.exit rfl ?_)
  exact RunE.retFn Tryz.func50 (.tmp rfl .nil) ⟨by rw [hk]; rfl, X⟩
/-- A deed that has been asked for. -/
def askD (person no at_ : Int) (prev : Dg) (seen : List Dg) (data : List UInt8) : Deed := ⟨person, no, at_, prev, seen, data, 0, 0⟩
end Go.Sg
end
section
/- Deeds: fine, Right. -/
set_option maxRecDepth 4000
namespace Go.Sg
open Go.Rn Go.Proofs Go.Dee Go.Rec Go.RowKit Go.Sha Go.Cod Go.NT
attribute [local irreducible] Go.Rn.RetsX Go.Rn.RunLN Go.Rn.AsyN Go.Rn.RunL Go.Rn.RunE Go.Rn.Asy Go.Rn.OpV Go.Rn.OpE Go.Rn.ExecE
def KsI (ks : List Int) : Prop := ∀ k ∈ ks, -9223372036854775808 ≤ k ∧ k < 9223372036854775808
theorem keyOf_get {ks : List Int} {p : Int} (h0 : 0 ≤ p) (h1 : p < (ks.length : Int)) : ks[p.toNat]? = some (Dee.keyOf ks p) := by
 unfold Dee.keyOf
 have h : p.toNat < ks.length := by omega
 rw [List.getD_eq_getElem?_getD, List.getElem?_eq_getElem h]; rfl
set_option maxRecDepth 4000 in
set_option maxHeartbeats 4000000 in
theorem dfine_ok (ks : List Int) (kv : Value) (d : Deed) (u v : Value) (w : World) (hk : LIn w kv ks) (hkl : ks.length < 9223372036854775808) (hki : KsI ks) (hd : WfD d) (hs : LDg w u d.seen) (hb : LBy w v d.data) (hl : d.seen.length < 9223372036854775808) (hl' : d.data.length < 9223372036854775808) (hS : Row w 0 0 (vals init8.l)) (hkT : Row w 1 0 (vals kTab)) :
  Rets Tryz.prog 51 [kv, .agg (dCells d u v).toArray] w fun r w' => r = .bool (fineD ks d) ∧ Ext w w' := by
 have c1 := fun w h1 h2 => dformed_ok d u v w h1 h2 hl hl'
 cases hf : formedD d with
 | false =>
  rw [hf] at c1
  have hr : fineD ks d = false := by unfold fineD; rw [hf]; rfl
  refine RetsX.of (nt := 34) Tryz.func51 (by kernel_rfl) rfl rfl (by simp) (by simp only [argEnv]; rfl) ?_
  have X := ExtB.refl (fun _ => False) w
  repeat' (first | refine ZzQ ?_ | refine ZzR ?_)
  refine RunL.box rfl rfl rfl fun B3 w3_ a_ => ?_
  have Z3 : Blk w3_ B3 (dCells d u v) 38 := a_.at_
  have gB3 := a_.ge X
  replace X := X.trans a_.ext
  clear a_
  repeat' (first | with_reducible refine ZzG rfl ?_ | refine RunL.ev Tryz.tOk rfl rfl rfl ?_ | refine ZzQ ?_ | refine ZzN ?_)
  refine RunE.draw (fun _ => False) mix ?_
  intro wd_ Xd_
  repeat' (first | with_reducible refine AsyN.boolF rfl ?_ | refine AsyN.any ?_ | refine Asy.ev Tryz.tOk rfl rfl rfl ?_ | refine Asy.unwantedD rfl rfl rfl ?_ | refine Asy.evV rfl rfl rfl rfl (fun _ X_ => OpV.loadN Tryz.tOk rfl rfl rfl rfl (Blk.row (Z3.up (Xd_.trans X_)))) ?_ | refine Asy.callN rfl rfl rfl (fun _ X_ => (c1 _ (hs.up (X.trans (Xd_.trans X_))) (hb.up (X.trans (Xd_.trans X_))))) ?_)
  refine Asy.end_ (by kernel_rfl) ?_
  intro we_ Xe_
  replace X := X.trans (Xd_.trans Xe_)
  clear Xd_ Xe_
  repeat' (first | refine ZzN ?_)
  exact RunE.retFn Tryz.func51 (.tmp rfl .nil) ⟨by rw [hr]; rfl, X⟩
 | true =>
  rw [hf] at c1
  obtain ⟨⟨p0, p1, -⟩, -⟩ := formedD_inv hf
  by_cases hlt : d.person < (ks.length : Int)
  ·have hg := keyOf_get p0 hlt
   obtain ⟨b1, o1, cc, rfl, hr1, -⟩ := isL_held hk (show d.person.toNat < ks.length by omega)
   have hrx := flat_row encIn hr1 hg
   by_cases h0 : Dee.keyOf ks d.person = 0
   ·have hr : fineD ks d = false := by unfold fineD; rw [h0]; simp
    rw [h0] at hrx
    refine RetsX.of (nt := 34) Tryz.func51 (by kernel_rfl) rfl rfl (by simp) (by simp only [argEnv]; rfl) ?_
    have X := ExtB.refl (fun _ => False) w
    repeat' (first | refine ZzQ ?_ | refine ZzR ?_)
    refine RunL.box rfl rfl rfl fun B3 w3_ a_ => ?_
    have Z3 : Blk w3_ B3 (dCells d u v) 38 := a_.at_
    have gB3 := a_.ge X
    replace X := X.trans a_.ext
    clear a_
    repeat' (first | with_reducible refine ZzG rfl ?_ | refine RunL.ev Tryz.tOk rfl rfl rfl ?_ | refine ZzQ ?_ | refine ZzN ?_)
    refine RunE.draw (fun _ => False) mix ?_
    intro wd_ Xd_
    repeat' (first | with_reducible refine AsyN.boolT rfl ?_ | with_reducible refine AsyN.boolF rfl ?_ | (with_reducible refine AsyN.decT ?_ ?_; focus omega) | (with_reducible refine AsyN.chk ?_; refine AsyN.int (by (rfl)) ?_) | refine AsyN.any ?_ | refine Asy.ev Tryz.tOk rfl rfl rfl ?_ | refine Asy.unwantedD rfl rfl rfl ?_ | refine Asy.evV rfl rfl rfl rfl (fun _ X_ => OpV.loadN Tryz.tOk rfl rfl rfl rfl (Blk.row (Z3.up (Xd_.trans X_)))) ?_ | refine Asy.evV rfl rfl rfl rfl (fun _ X_ => OpV.load1 Tryz.tOk rfl rfl rfl (Blk.cell (Z3.up (Xd_.trans X_)) rfl)) ?_ | refine Asy.evV rfl rfl rfl rfl (fun _ X_ => OpV.indexS Tryz.tOk (d.person.toNat) rfl rfl rfl (by first | rfl | omega) (by omega)) ?_ | refine Asy.evV rfl rfl rfl rfl (fun _ X_ => OpV.load1 Tryz.tOk rfl rfl rfl ((hrx.up (X.trans (Xd_.trans X_))) 0 _ rfl)) ?_ | refine Asy.callN rfl rfl rfl (fun _ X_ => (c1 _ (hs.up (X.trans (Xd_.trans X_))) (hb.up (X.trans (Xd_.trans X_))))) ?_)
    refine Asy.end_ (by kernel_rfl) ?_
    intro we_ Xe_
    replace X := X.trans (Xd_.trans Xe_)
    clear Xd_ Xe_
    repeat' (first | refine ZzN ?_)
    exact RunE.retFn Tryz.func51 (.tmp rfl .nil) ⟨by rw [hr]; rfl, X⟩
   ·have hkb := hki _ (List.mem_of_getElem? hg)
    have hr : fineD ks d = verS (Dee.keyOf ks d.person) (textD d) d.e d.s := by
     unfold fineD
     rw [hf, decide_eq_true hlt]
     have : (Dee.keyOf ks d.person != 0) = true := by simpa using h0
     rw [this]; simp
    have c2 := fun w h1 h2 => dtext_ok d u v w h1 h2 hf
    have c3 := fun r w h => verify_ok (Dee.keyOf ks d.person) d.e d.s r (textD d) w hkb hd.e hd.s h (Nat.le_trans (text_len hf) (by decide))
    generalize verS (Dee.keyOf ks d.person) (textD d) d.e d.s = m at *
    generalize Dee.keyOf ks d.person = key at *
    refine RetsX.of (nt := 34) Tryz.func51 (by kernel_rfl) rfl rfl (by simp) (by simp only [argEnv]; rfl) ?_
    have X := ExtB.refl (fun _ => False) w
    repeat' (first | refine ZzQ ?_ | refine ZzR ?_)
    refine RunL.box rfl rfl rfl fun B3 w3_ a_ => ?_
    have Z3 : Blk w3_ B3 (dCells d u v) 38 := a_.at_
    have gB3 := a_.ge X
    replace X := X.trans a_.ext
    clear a_
    repeat' (first | with_reducible refine ZzG rfl ?_ | refine RunL.ev Tryz.tOk rfl rfl rfl ?_ | refine ZzQ ?_ | refine ZzN ?_)
    refine RunE.draw (fun _ => False) mix ?_
    intro wd_ Xd_
    repeat' (first | with_reducible refine AsyN.boolT rfl ?_ | (with_reducible refine AsyN.decT ?_ ?_; focus omega) | (with_reducible refine AsyN.neT ?_ ?_; focus omega) | (with_reducible refine AsyN.chk ?_; refine AsyN.int (by (rfl)) ?_) | refine AsyN.any ?_ | refine Asy.ev Tryz.tOk rfl rfl rfl ?_ | refine Asy.evV rfl rfl rfl rfl (fun _ X_ => OpV.loadN Tryz.tOk rfl rfl rfl rfl (Blk.row (Z3.up (Xd_.trans X_)))) ?_ | refine Asy.evV rfl rfl rfl rfl (fun _ X_ => OpV.load1 Tryz.tOk rfl rfl rfl (Blk.cell (Z3.up (Xd_.trans X_)) rfl)) ?_ | refine Asy.evV rfl rfl rfl rfl (fun _ X_ => OpV.indexS Tryz.tOk (d.person.toNat) rfl rfl rfl (by first | rfl | omega) (by omega)) ?_ | refine Asy.evV rfl rfl rfl rfl (fun _ X_ => OpV.load1 Tryz.tOk rfl rfl rfl ((hrx.up (X.trans (Xd_.trans X_))) 0 _ rfl)) ?_ | refine Asy.callN rfl rfl rfl (fun _ X_ => (c1 _ (hs.up (X.trans (Xd_.trans X_))) (hb.up (X.trans (Xd_.trans X_))))) ?_)
    refine Asy.sat0 (fun q w' => LBy w' q (textD d)) rfl rfl rfl rfl (fun q w' w'' _ e h => h.up e) (fun w' e => ?_) ?_
    ·refine OpE.mono (OpE.call rfl (c2 _ (hs.up (X.trans (Xd_.trans e))) (hb.up (X.trans (Xd_.trans e))))) ?_ fun _ _ h => h
     rintro r w'' ⟨h1, h2⟩
     exact ⟨h2, isSl_own h1⟩
    repeat' (first | refine AsyN.any ?_ | refine Asy.ev Tryz.tOk rfl rfl rfl ?_ | refine Asy.evV rfl rfl rfl rfl (fun _ X_ => OpV.loadN Tryz.tOk rfl rfl rfl rfl ((row_sig (Blk.row Z3)).up (Xd_.trans X_))) ?_)
    refine Asy.val1 0 (v := .bool m) rfl rfl rfl rfl rfl rfl (fun w' q e hx => OpE.call rfl (c3 q w' hx (hS.up (X.trans (Xd_.trans e))) (hkT.up (X.trans (Xd_.trans e))))) ?_
    repeat' (first | refine AsyN.any ?_ | refine Asy.ev Tryz.tOk rfl rfl rfl ?_)
    refine Asy.tail (by kernel_rfl) ?_
    intro we_ Xe_
    simp only [satsAll]
    rintro _ -
    replace X := X.trans (Xd_.trans Xe_)
    clear Xd_ Xe_
    repeat' (first | refine ZzN ?_)
    exact RunE.retFn Tryz.func51 (.tmp rfl .nil) ⟨by rw [hr]; rfl, X⟩
  ·have hr : fineD ks d = false := by unfold fineD; rw [decide_eq_false hlt]; simp
   refine RetsX.of (nt := 34) Tryz.func51 (by kernel_rfl) rfl rfl (by simp) (by simp only [argEnv]; rfl) ?_
   have X := ExtB.refl (fun _ => False) w
   repeat' (first | refine ZzQ ?_ | refine ZzR ?_)
   refine RunL.box rfl rfl rfl fun B3 w3_ a_ => ?_
   have Z3 : Blk w3_ B3 (dCells d u v) 38 := a_.at_
   have gB3 := a_.ge X
   replace X := X.trans a_.ext
   clear a_
   repeat' (first | with_reducible refine ZzG rfl ?_ | refine RunL.ev Tryz.tOk rfl rfl rfl ?_ | refine ZzQ ?_ | refine ZzN ?_)
   refine RunE.draw (fun _ => False) mix ?_
   intro wd_ Xd_
   repeat' (first | with_reducible refine AsyN.boolT rfl ?_ | with_reducible refine AsyN.boolF rfl ?_ | (with_reducible refine AsyN.decF ?_ ?_; focus omega) | (with_reducible refine AsyN.chk ?_; refine AsyN.int (by (rfl)) ?_) | refine AsyN.any ?_ | refine Asy.ev Tryz.tOk rfl rfl rfl ?_ | refine Asy.unwantedD rfl rfl rfl ?_ | refine Asy.evV rfl rfl rfl rfl (fun _ X_ => OpV.loadN Tryz.tOk rfl rfl rfl rfl (Blk.row (Z3.up (Xd_.trans X_)))) ?_ | refine Asy.evV rfl rfl rfl rfl (fun _ X_ => OpV.load1 Tryz.tOk rfl rfl rfl (Blk.cell (Z3.up (Xd_.trans X_)) rfl)) ?_ | refine Asy.evV rfl rfl rfl rfl (fun _ X_ => OpV.lenSl Tryz.tOk rfl rfl hk) ?_ | refine Asy.callN rfl rfl rfl (fun _ X_ => (c1 _ (hs.up (X.trans (Xd_.trans X_))) (hb.up (X.trans (Xd_.trans X_))))) ?_)
   refine Asy.end_ (by kernel_rfl) ?_
   intro we_ Xe_
   replace X := X.trans (Xd_.trans Xe_)
   clear Xd_ Xe_
   repeat' (first | refine ZzN ?_)
   exact RunE.retFn Tryz.func51 (.tmp rfl .nil) ⟨by rw [hr]; rfl, X⟩
theorem dRight_ok (ks : List Int) (kv : Value) (d : Deed) (u v : Value) (w : World) (hk : LIn w kv ks) (hkl : ks.length < 9223372036854775808) (hki : KsI ks) (hd : WfD d) (hs : LDg w u d.seen) (hb : LBy w v d.data) (hl : d.seen.length < 9223372036854775808) (hl' : d.data.length < 9223372036854775808) (hS : Row w 0 0 (vals init8.l)) (hkT : Row w 1 0 (vals kTab)) :
  Rets Tryz.prog 24 [kv, .agg (dCells d u v).toArray] w fun r w' => r = .tuple #[.bool (rightB ks d), .int .i64 (rightE ks)] ∧ Ext w w' := by
 have c1 := fun w h => dkeys_ok ks kv w h hkl
 have c2 := fun w h h1 h2 => dfine_ok ks kv d u v w h hkl hki hd h1 h2 hl hl'
 unfold rightB rightE
 refine RetsX.of (nt := 12) Tryz.func24 (by kernel_rfl) rfl rfl (by simp) (by simp only [argEnv]; rfl) ?_
 have X := ExtB.refl (fun _ => False) w
 repeat' (first | refine ZzQ ?_ | refine ZzR ?_)
 refine RunL.box rfl rfl rfl fun B3 w3_ a_ => ?_
 have Z3 : Blk w3_ B3 (dCells d u v) 38 := a_.at_
 have gB3 := a_.ge X
 replace X := X.trans a_.ext
 clear a_
 repeat' (first | with_reducible refine ZzG rfl ?_ | (with_reducible refine RunLN.chk ?_; refine RunLN.int (by (rfl)) ?_) | refine ZzA ?_ | refine RunL.ev Tryz.tOk rfl rfl rfl ?_ | refine ZzQ ?_ | refine ZzR ?_ | refine ZzN ?_)
 refine RunL.call rfl rfl rfl (c1 _ (hk.up X)) ?_
 rintro _ _ ⟨rfl, Xa_⟩
 replace Z3 := Z3.up Xa_
 replace X := X.trans Xa_
 clear Xa_
 cases keysD ks with
 | false =>
  repeat' (first | with_reducible refine ZzP rfl ?_ | with_reducible refine ZzG rfl ?_ | (with_reducible refine RunLN.chk ?_; refine RunLN.int (by (rfl)) ?_) | refine RunL.ev Tryz.tOk rfl rfl rfl ?_ | refine ZzT rfl rfl ?_ | refine ZzQ ?_ | refine ZzR ?_ | refine ZzN ?_)
  exact RunE.retFn Tryz.func24 (.tmp rfl (.tmp rfl .nil)) ⟨rfl, X⟩
 | true =>
  repeat' (first | with_reducible refine ZzG rfl ?_ | refine ZzA ?_ | refine RunL.ev Tryz.tOk rfl rfl rfl ?_ | refine RunL.evV rfl rfl rfl (OpV.loadN Tryz.tOk rfl rfl rfl rfl (Blk.row Z3)) ?_ | refine ZzF rfl rfl ?_ | refine ZzQ ?_ | refine ZzR ?_ | refine ZzN ?_ | refine ZzK ?_)
  refine RunL.call rfl rfl rfl (c2 _ (hk.up X) (hs.up X) (hb.up X) (hS.up X) (hkT.up X)) ?_
  rintro _ _ ⟨rfl, Xa_⟩
  replace X := X.trans Xa_
  clear Xa_
  repeat' (first | (with_reducible refine RunLN.chk ?_; refine RunLN.int (by (rfl)) ?_) | refine ZzA ?_ | refine RunL.ev Tryz.tOk rfl rfl rfl ?_ | refine ZzN ?_)
  exact RunE.retFn Tryz.func24 (.tmp rfl (.tmp rfl .nil)) ⟨by rw [Bool.true_and]; rfl, X⟩
end Go.Sg
end
section
/- Maps: an entry that is read and then written (m[k] = append(m[k], ..)). -/
set_option maxRecDepth 4000
namespace Go.Rn
open Go.RowKit
section
variable {α : Type} [DecidableEq α] {kv : α → Value} {good : α → Prop}
/-- A map whose entry k bears this stamp. -/
def EntK (kv : α → Value) (good : α → Prop) (w : World) (r : Nat) (m : List (α × Value)) (k : α) (st : Nat) : Prop := ∃ (es : Array MapEntry) (clock i : Nat), w.heap[r]? = some (.map es clock) ∧ bornOk es.toList clock ∧ (∃ e, es.toList[i]? = some e ∧ e.born = st) ∧
 ∀ v, entsOk kv good (es.toList.modify i fun e => { e with val := v }) (setM k v m)
theorem EntK.ext {S : Nat → Prop} {w w' : World} {r : Nat} {m : List (α × Value)} {k : α} {st : Nat} (h : EntK kv good w r m k st) (e : ExtB S w w') (hn : ¬ S r) : EntK kv good w' r m k st := by
 obtain ⟨es, c, i, h1, h2⟩ := h
 exact ⟨es, c, i, by rw [e.block r (lt_of_get h1) hn]; exact h1, h2⟩
variable {P : Program} {w : World} {env : Env} {dst : Option Tmp} {ty : TypeId} {pos : String} {after : Array Edge} {guard : Option (Nat × Bool)}
theorem modify_eq {es : List MapEntry} {i : Nat} {e : MapEntry} {kk v : Value} (he : es[i]? = some e) (hk : e.key = kk) : (es.modify i fun e => { e with key := kk, val := v }) = es.modify i fun e => { e with val := v } := by
 apply List.ext_getElem?
 intro j
 simp only [List.getElem?_modify]
 by_cases h : i = j
 ·subst h; rw [he]; simp [hk]
 ·simp [h]
theorem modify_last (f : MapEntry → MapEntry) (e : MapEntry) : ∀ l : List MapEntry, (l ++ [e]).modify l.length f = l ++ [f e]
 | [] => rfl
 | x :: l => by
  rw [List.cons_append, List.length_cons, List.modify_succ_cons, modify_last f e l, List.cons_append]
theorem OpE.mapEntry {t kt et : TypeId} {x y : Operand} {r : Nat} {k : α} {m : List (α × Value)} {z : Value} (ht : P.underlying t = some (.map kt et)) (hk : KeyOk P kt kv good) (hz : (P.info? et).bind (·.zero) = some z)
  (hx : evO env x = some (.map (some r))) (hy : evO env y = some (kv k)) (hg : good k) (hm : MapK kv good w r m) :
  OpE P env w ⟨dst, .mapEntry t x y, ty, pos, after, guard⟩ (fun u w' => ∃ st : Nat, u = .tuple #[(getM k m).getD z, .int .i64 (st : Int)] ∧ EntK kv good w' r m k st ∧ ExtB (· = r) w w' ∧ w'.heap.size = w.heap.size) fun _ _ => False := by
 obtain ⟨es, c, h1, h2, hbo⟩ := hm
 have hlt := lt_of_get h1
 obtain ⟨i, hi, hiz⟩ := Option.bind_eq_some_iff.1 hz
 have hzr : (zeroValue et).run P w = .ok z w := by unfold zeroValue; rw [run_bind _ _ (run_typeInfo hi), hiz]; rfl
 obtain ⟨q, hf, h4⟩ := hk.find w k es.toList m hg h2
 obtain ⟨es', c', st, hent, hrun⟩ : ∃ es' c' st, (∀ w', w'.heap[r]? = some (.map es' c') → EntK kv good w' r m k st) ∧ (Instr.mapEntry t (.map (some r)) (kv k)).run P w = .ok (.tuple #[(getM k m).getD z, .int .i64 (st : Int)]) (World.setObj w r (.map es' c')) := by
  unfold Instr.mapEntry
  match q, h4, hf with
  | none, h4, hf =>
   refine ⟨es.push { key := kv k, val := z, born := c }, c + 1, c, fun w' hw => ⟨_, _, es.size, hw, ?_, ⟨{ key := kv k, val := z, born := c }, ?_, rfl⟩, fun v => ?_⟩, ?_⟩
   ·obtain ⟨b1, b2⟩ := hbo
    refine ⟨?_, fun e he => ?_⟩
    ·rw [Array.toList_push, List.map_append, List.map_singleton, List.nodup_append]
     refine ⟨b1, by simp, fun a ha b hb => ?_⟩
     simp only [List.mem_singleton] at hb; subst hb
     obtain ⟨e, he, rfl⟩ := List.mem_map.1 ha
     have := b2 e he
     exact Nat.ne_of_lt this
    ·rw [Array.toList_push] at he
     rcases List.mem_append.1 he with he | he
     ·have := b2 e he; omega
     ·simp only [List.mem_singleton] at he; subst he; exact Nat.lt_succ_self c
   ·rw [Array.toList_push]
    simp
   ·rw [h4.2, Array.toList_push]
    have e1 : (es.toList ++ [({ key := kv k, val := z, born := c } : MapEntry)]).modify es.size (fun e => { e with val := v }) = es.toList ++ [{ key := kv k, val := v, born := c }] := by
     rw [show es.size = es.toList.length by simp, modify_last]
    rw [e1]
    refine ⟨by have := h2.1; simp [this], fun x hx => ?_⟩
    rcases List.mem_append.1 hx with hx | hx
    ·exact h2.2 x hx
    ·simp at hx; subst hx; exact hg
   ·rw [run_bind _ _ (run_underlying ht)]
    simp only
    rw [run_bind _ _ (run_getObj h1 (by intros; simp))]
    simp only
    rw [run_bind _ _ (hk.check w k _ hg), run_bind _ _ hf]
    simp only
    rw [run_bind _ _ hzr, run_bind _ _ (run_setObj h1 (by intros; simp)), h4.1]
    rfl
  | some (j, u), h4, hf =>
   simp only [Found, Nat.sub_zero] at h4
   obtain ⟨hgm, -, ⟨e, he, hek⟩, h7⟩ := h4
   have hmod : (es.modify j fun e => { e with key := kv k }).toList = es.toList := by
    rw [Array.toList_modify]
    apply List.ext_getElem?
    intro q
    simp only [List.getElem?_modify]
    by_cases h : j = q
    ·subst h; rw [he]; simp [← hek]
    ·simp [h]
   refine ⟨es.modify j fun e => { e with key := kv k }, c, e.born, fun w' hw => ⟨_, _, j, hw, by rw [hmod]; exact hbo, ⟨e, by rw [hmod]; exact he, rfl⟩, fun v => ?_⟩, ?_⟩
   ·rw [hmod, ← modify_eq he hek]; exact h7 v
   ·rw [run_bind _ _ (run_underlying ht)]
    simp only
    rw [run_bind _ _ (run_getObj h1 (by intros; simp))]
    simp only
    rw [run_bind _ _ (hk.check w k _ hg), run_bind _ _ hf]
    simp only
    have hea : es[j]? = some e := by rw [← Array.getElem?_toList]; exact he
    have hgk : ((es[j]?).map (·.key)).getD (kv k) = kv k := by rw [hea]; simp [hek]
    rw [hgk]
    have hks : (Instr.keyThatStays (kv k) (kv k)).run P w = .ok (kv k) w := by
     unfold Instr.keyThatStays
     rw [hk.same k hg]; rfl
    rw [run_bind _ _ hks, run_bind _ _ (run_setObj h1 (by intros; simp)), hgm]
    simp only [hea, Option.map_some, Option.getD_some]
    rfl
 have ht' := turned_set w hlt (.map es' c')
 refine .of_run (w' := World.setObj w r (.map es' c')) (v := _) ⟨st, rfl, hent _ ht'.at_, ht'.ext, ht'.size⟩ fun ρ hρ => ⟨_, by simp only [execOp, hρ _ _ hx, hρ _ _ hy] <;> rfl, hrun⟩
theorem findIdx_born {es : List MapEntry} (h : (es.map (·.born)).Nodup) {i : Nat} {e : MapEntry} (he : es[i]? = some e) : es.findIdx? (fun x => (x.born : Int) == (e.born : Int)) = some i := by
 rw [List.findIdx?_eq_some_iff_getElem]
 obtain ⟨hi, rfl⟩ := List.getElem?_eq_some_iff.1 he
 refine ⟨hi, by simp, fun j hj => ?_⟩
 have hne := List.pairwise_iff_getElem.1 h j i (by simp; omega) (by simpa using hi) hj
 simp only [List.getElem_map] at hne
 simp; omega
theorem OpE.entryStore {t : TypeId} {x y zz : Operand} {r : Nat} {k : α} {v : Value} {m : List (α × Value)} {st : Nat}
  (hx : evO env x = some (.map (some r))) (hy : evO env y = some (.int .i64 (st : Int))) (hv : evO env zz = some v) (hm : EntK kv good w r m k st) :
  OpE P env w ⟨dst, .entryStore t x y zz, ty, pos, after, guard⟩ (fun _ w' => MapK kv good w' r (setM k v m) ∧ ExtB (· = r) w w' ∧ w'.heap.size = w.heap.size) fun _ _ => False := by
 obtain ⟨es, c, i, h1, hbo, ⟨e, he, rfl⟩, h7⟩ := hm
 have hlt := lt_of_get h1
 have hrun : (Instr.entryStore t (.map (some r)) (.int .i64 (e.born : Int)) v).run P w = .ok () (World.setObj w r (.map (es.modify i fun e => { e with val := v }) c)) := by
  unfold Instr.entryStore
  simp only
  rw [run_bind _ _ (run_getObj h1 (by intros; simp))]
  simp only
  rw [run_bind (v := (e.born : Int)) (w' := w) _ _ rfl]
  have hfi : es.findIdx? (fun x => (x.born : Int) == (e.born : Int)) = some i := by
   obtain ⟨l⟩ := es
   rw [List.findIdx?_toArray]; exact findIdx_born hbo.1 he
  rw [hfi]
  exact run_setObj h1 (by intros; simp)
 have ht' := turned_set w hlt (.map (es.modify i fun e => { e with val := v }) c)
 intro ρ hρ
 have hex : execOp ρ ⟨dst, .entryStore t x y zz, ty, pos, after, guard⟩ = (do Instr.entryStore t (.map (some r)) (.int .i64 (e.born : Int)) v; pure .skip : Sem Next) := by
  simp only [execOp, hρ _ _ hx, hρ _ _ hy, hρ _ _ hv]
 refine ExecE.of_skip (w' := World.setObj w r (.map (es.modify i fun e => { e with val := v }) c)) (by rw [hex, run_bind _ _ hrun]; rfl) ⟨⟨_, c, ht'.at_, by rw [Array.toList_modify]; exact h7 v, ?_⟩, ht'.ext, ht'.size⟩
 obtain ⟨b1, b2⟩ := hbo
 have hmp : (es.toList.modify i fun e => { e with val := v }).map (·.born) = es.toList.map (·.born) := by
  apply List.ext_getElem?
  intro q
  simp only [List.getElem?_map, List.getElem?_modify]
  cases es.toList[q]? with
  | none => rfl
  | some e => by_cases h : i = q <;> simp [h]
 rw [Array.toList_modify]
 refine ⟨by rw [hmp]; exact b1, fun e he => ?_⟩
 have : e.born ∈ (es.toList.modify i fun e => { e with val := v }).map (·.born) := List.mem_map.2 ⟨e, he, rfl⟩
 rw [hmp] at this
 obtain ⟨e', he', hb⟩ := List.mem_map.1 this
 rw [← hb]; exact b2 e' he'
end
end Go.Rn
end
section
/- Ranging over a map that the loop does not write. -/
set_option maxRecDepth 4000
namespace Go.Rn
open Go.RowKit
theorem range_filterMap {β : Type} (m : List β) : (List.range m.length).filterMap (fun j => m[j]?) = m := by
 induction m with
 | nil => rfl
 | cons a m ih =>
  rw [List.length_cons, List.range_succ_eq_map, List.filterMap_cons]
  simp only [List.getElem?_cons_zero, List.filterMap_map]
  congr 1
section
variable {α : Type} [DecidableEq α] {kv : α → Value} {good : α → Prop}
/-- Which entries have been handed out, by their places. -/
structure SeenOk (es : Array MapEntry) (seen : Array Nat) (js : List Nat) : Prop where
 nodup : js.Nodup
 lt : ∀ j ∈ js, j < es.size
 mem : ∀ i e, es[i]? = some e → (e.born ∈ seen ↔ i ∈ js)
 back : seen.back? = js.getLast?.bind fun j => es[j]?.map (·.born)
/-- An iterator over a map: what it has handed out. -/
def IterAt (kv : α → Value) (good : α → Prop) (w : World) (it r : Nat) (m ys : List (α × Value)) : Prop :=
 ∃ (es : Array MapEntry) (clock since : Nat) (seen : Array Nat) (js : List Nat), w.heap[it]? = some (.mapIter (some r) since seen clock) ∧ w.heap[r]? = some (.map es clock) ∧
  entsOk kv good es.toList m ∧ bornOk es.toList clock ∧ (∀ e ∈ es.toList, e.born < since) ∧ since ≤ clock ∧ SeenOk es seen js ∧ ys = js.filterMap fun j => m[j]?
theorem entsOk_length {es : List MapEntry} {m : List (α × Value)} (h : entsOk kv good es m) : es.length = m.length := by
 have := congrArg List.length h.1; simpa using this
theorem entsOk_get {es : List MapEntry} {m : List (α × Value)} (h : entsOk kv good es m) {i : Nat} {e : MapEntry} (he : es[i]? = some e) : ∃ x, m[i]? = some x ∧ e.key = kv x.1 ∧ e.val = x.2 ∧ good x.1 := by
 have h1 := congrArg (·[i]?) h.1
 simp only [List.getElem?_map, he, Option.map_some] at h1
 cases hx : m[i]? with
 | none => rw [hx] at h1; simp at h1
 | some x =>
  rw [hx] at h1
  simp only [Option.map_some, Option.some.injEq, Prod.mk.injEq] at h1
  exact ⟨x, rfl, h1.1, h1.2, h.2 x (List.mem_of_getElem? hx)⟩
theorem IterAt.ext {S : Nat → Prop} {w w' : World} {it r : Nat} {m ys : List (α × Value)} (h : IterAt kv good w it r m ys) (e : ExtB S w w') (h1 : ¬ S it) (h2 : ¬ S r) : IterAt kv good w' it r m ys := by
 obtain ⟨es, clock, since, seen, js, a, b, rest⟩ := h
 exact ⟨es, clock, since, seen, js, by rw [e.block it (lt_of_get a) h1]; exact a, by rw [e.block r (lt_of_get b) h2]; exact b, rest⟩
theorem IterAt.up {w w' : World} {it r : Nat} {m ys : List (α × Value)} (h : IterAt kv good w it r m ys) (e : Ext w w') : IterAt kv good w' it r m ys := h.ext e id id
theorem MapK.up {w w' : World} {r : Nat} {m : List (α × Value)} (h : MapK kv good w r m) (e : Ext w w') : MapK kv good w' r m := h.ext e id
theorem perm_rest (js : List Nat) (n : Nat) (h1 : js.Nodup) (h2 : ∀ j ∈ js, j < n) : (js ++ (List.range n).filter fun j => decide (j ∉ js)).Perm (List.range n) := by
 rw [List.perm_iff_count]
 intro a
 rw [List.count_append]
 have hr : (List.range n).count a = if a < n then 1 else 0 := by
  by_cases h : a < n
  ·rw [if_pos h]; exact by rw [List.Nodup.count List.nodup_range, if_pos (List.mem_range.2 h)]
  ·rw [if_neg h]; exact List.count_eq_zero.2 (by simpa using h)
 by_cases hj : a ∈ js
 ·have e1 : js.count a = 1 := by rw [h1.count, if_pos hj]
  have e2 : ((List.range n).filter fun j => decide (j ∉ js)).count a = 0 := List.count_eq_zero.2 (by simp [hj])
  rw [e1, e2, hr, if_pos (h2 a hj)]
 ·have e1 : js.count a = 0 := List.count_eq_zero.2 hj
  have e2 : ((List.range n).filter fun j => decide (j ∉ js)).count a = (List.range n).count a := List.count_filter (by simpa using hj)
  rw [e1, e2, Nat.zero_add]
theorem IterAt.sub {w : World} {it r : Nat} {m ys : List (α × Value)} (h : IterAt kv good w it r m ys) : ∃ zs, (ys ++ zs).Perm m := by
 obtain ⟨es, clock, since, seen, js, -, -, hok, -, -, -, hs, rfl⟩ := h
 have hn : es.size = m.length := by have := entsOk_length hok; simpa using this
 refine ⟨((List.range m.length).filter fun j => decide (j ∉ js)).filterMap fun j => m[j]?, ?_⟩
 rw [← List.filterMap_append]
 have := (perm_rest js m.length hs.nodup (by rw [← hn]; exact hs.lt)).filterMap fun j => m[j]?
 rwa [range_filterMap] at this
variable {P : Program} {w : World} {env : Env} {dst : Option Tmp} {ty : TypeId} {pos : String} {after : Array Edge} {guard : Option (Nat × Bool)}
theorem OpE.rangeMap {t kt et : TypeId} {x : Operand} {r : Nat} {m : List (α × Value)} (ht : P.underlying t = some (.map kt et)) (hx : evO env x = some (.map (some r))) (hm : MapK kv good w r m) :
  OpE P env w ⟨dst, .range t x, ty, pos, after, guard⟩ (fun v w' => ∃ it, v = .pointer (some ⟨it, 0, none⟩) ∧ it = w.heap.size ∧ w'.heap.size = w.heap.size + 1 ∧ Ext w w' ∧ IterAt kv good w' it r m []) fun _ _ => False := by
 obtain ⟨es, clock, h1, h2, h3⟩ := hm
 have ha := added_push w (.mapIter (some r) clock #[] clock)
 refine .of_run (w' := { w with heap := w.heap.push (.mapIter (some r) clock #[] clock) }) (v := .pointer (some ⟨w.heap.size, 0, none⟩)) ⟨w.heap.size, rfl, rfl, ha.size, ha.ext, ?_⟩ fun ρ hρ => ⟨_, by simp only [execOp, hρ _ _ hx] <;> rfl, ?_⟩
 ·refine ⟨es, clock, clock, #[], [], ha.at_, ?_, h2, h3, h3.2, Nat.le_refl _, ⟨List.nodup_nil, by simp, by simp, by simp⟩, rfl⟩
  rw [ha.ext.block r (lt_of_get h1) id]; exact h1
 ·exact run_range_map w t kt et r es clock ht h1
theorem ext_setBlock {w : World} {b : Nat} {o : Obj} (hb : b < w.heap.size) : Turned w (Go.ChangeMaps.setBlock w b o) b o := turned_set w hb o
theorem OpE.nextMap {x : Operand} {it r : Nat} {m ys : List (α × Value)} (hx : evO env x = some (.pointer (some ⟨it, 0, none⟩))) (hi : IterAt kv good w it r m ys) :
  OpE P env w ⟨dst, .next x false, ty, pos, after, guard⟩ (fun v w' => (v = .tuple #[.bool false] ∧ w' = w ∧ ys.Perm m) ∨
   ∃ y, v = .tuple #[.bool true, kv y.1, y.2] ∧ good y.1 ∧ IterAt kv good w' it r m (ys ++ [y]) ∧ ExtB (· = it) w w' ∧ w'.heap.size = w.heap.size) fun _ _ => False := by
 obtain ⟨es, clock, since, seen, js, a, b, c, d, ho, hcl, hs, rfl⟩ := hi
 have hn : es.size = m.length := by have := entsOk_length c; simpa using this
 have hir : it ≠ r := by intro e; subst e; rw [a] at b; simp at b
 rcases run_next_at (P := P) w ty it r since clock seen es clock a b ho hcl with ⟨h0, hrun⟩ | ⟨e, he, w1, hw1, hrun⟩
 ·refine .of_run (w' := w) (v := .tuple #[.bool false]) (.inl ⟨rfl, rfl, ?_⟩) fun ρ hρ => ⟨_, by simp only [execOp, hρ _ _ hx] <;> rfl, hrun⟩
  have hall : ∀ i, i < es.size → i ∈ js := by
   intro i hi
   refine (hs.mem i es[i] (Array.getElem?_eq_getElem hi)).1 ?_
   have hl : leftOf es seen = #[] := Array.eq_empty_of_size_eq_zero h0
   unfold leftOf at hl
   rw [Array.filter_eq_empty_iff] at hl
   have := hl es[i] (Array.getElem_mem hi)
   simpa using this
  have hp := perm_rest js m.length hs.nodup (by rw [← hn]; exact hs.lt)
  have hz : ((List.range m.length).filter fun j => decide (j ∉ js)) = [] := by
   rw [List.filter_eq_nil_iff]
   intro j hj
   have := hall j (by rw [hn]; exact List.mem_range.1 hj)
   simpa using this
  rw [hz, List.append_nil] at hp
  have := hp.filterMap fun j => m[j]?
  rwa [range_filterMap] at this
 ·unfold leftOf at he
  rw [Array.mem_toList_iff, Array.mem_filter] at he
  obtain ⟨he1, he2⟩ := he
  have he2 : e.born ∉ seen := by simpa using he2
  obtain ⟨i, hi, hie⟩ := Array.getElem_of_mem he1
  have hge : es[i]? = some e := by rw [Array.getElem?_eq_getElem hi, hie]
  have hij : i ∉ js := fun h => he2 ((hs.mem i e hge).2 h)
  obtain ⟨y, hy, hk, hv, hgd⟩ := entsOk_get c (i := i) (e := e) (by rw [Array.getElem?_toList]; exact hge)
  have hw1s : w1.heap = w.heap := by rcases hw1 with rfl | rfl <;> rfl
  have X1 : Ext w w1 := by
   rcases hw1 with rfl | rfl
   ·exact ExtB.refl _ _
   ·exact ⟨Nat.le_succ _, rfl, rfl, rfl, Nat.le_refl _, fun _ _ _ => rfl⟩
  have hT := ext_setBlock (w := w1) (b := it) (o := .mapIter (some r) since (seen.push e.born) clock) (by rw [hw1s]; exact lt_of_get a)
  rw [hk, hv] at hrun
  refine .of_run (w' := _) (v := _) (.inr ⟨y, rfl, hgd, ⟨es, clock, since, seen.push e.born, js ++ [i], hT.at_, ?_, c, d, ho, hcl, ⟨?_, ?_, ?_, ?_⟩, ?_⟩, ?_, ?_⟩) fun ρ hρ => ⟨_, by simp only [execOp, hρ _ _ hx] <;> rfl, hrun⟩
  ·rw [hT.ext.block r (by rw [hw1s]; exact lt_of_get b) (fun h => hir h.symm), hw1s]; exact b
  ·rw [List.nodup_append]
   refine ⟨hs.nodup, by simp, fun u hu v hv e => ?_⟩
   simp only [List.mem_singleton] at hv
   subst hv; subst e; exact hij hu
  ·intro j hj
   rcases List.mem_append.1 hj with hj | hj
   ·exact hs.lt j hj
   ·simp only [List.mem_singleton] at hj; subst hj; exact hi
  ·intro j f hf
   rw [Array.mem_push, List.mem_append, List.mem_singleton, hs.mem j f hf]
   refine or_congr Iff.rfl ⟨fun hb => ?_, fun hb => ?_⟩
   ·have hnd := List.pairwise_iff_getElem.1 d.1
    have hjl : j < es.size := (Array.getElem?_eq_some_iff.1 hf).1
    have ej : es[j] = f := (Array.getElem?_eq_some_iff.1 hf).2
    rcases Nat.lt_trichotomy j i with h | h | h
    ·have := hnd j i (by simpa using hjl) (by simpa using hi) h
     simp only [List.getElem_map, Array.getElem_toList, ej, hie] at this
     exact absurd hb this
    ·exact h
    ·have := hnd i j (by simpa using hi) (by simpa using hjl) h
     simp only [List.getElem_map, Array.getElem_toList, ej, hie] at this
     exact absurd hb.symm this
   ·subst hb; rw [hge] at hf; cases hf; rfl
  ·rw [Array.back?_push]; simp [hge]
  ·rw [List.filterMap_append]; simp [hy]
  ·exact (ExtB.of_ext X1).trans hT.ext
  ·rw [hT.size, hw1s]
theorem OpV.entryMap {x : Operand} {it r : Nat} {m ys : List (α × Value)} {y : α × Value} (hx : evO env x = some (.pointer (some ⟨it, 0, none⟩))) (hi : IterAt kv good w it r m (ys ++ [y])) :
  OpV P env w ⟨dst, .entry x, ty, pos, after, guard⟩ (.tuple #[kv y.1, y.2]) := .of_run fun ρ hρ => by
 refine ⟨_, by simp only [execOp, hρ _ _ hx] <;> rfl, ?_⟩
 obtain ⟨es, clock, since, seen, js, a, b, c, d, ho, hcl, hs, hys⟩ := hi
 have hn : es.size = m.length := by have := entsOk_length c; simpa using this
 -- the last place
 rcases List.eq_nil_or_concat js with rfl | ⟨js', i, rfl⟩
 ·simp at hys
 have hil : i < es.size := hs.lt i (by simp)
 have hmi : i < m.length := by omega
 rw [List.concat_eq_append, List.filterMap_append] at hys
 have e1 : [i].filterMap (fun j => m[j]?) = [m[i]] := by simp [hmi]
 rw [e1] at hys
 have hy : y = m[i] := by
  have := List.append_inj_right' hys (by rfl)
  simpa using this
 obtain ⟨z, hz, hk, hv, -⟩ := entsOk_get c (i := i) (e := es[i]) (by rw [Array.getElem?_toList]; exact Array.getElem?_eq_getElem hil)
 have hzy : z = y := by rw [hy]; rw [List.getElem?_eq_getElem hmi] at hz; exact (Option.some.inj hz).symm
 subst hzy
 have hb2 : seen.back? = some es[i].born := by
  rw [hs.back, List.concat_eq_append]; simp [hil]
 obtain ⟨seen', hpush⟩ : ∃ s' : Array Nat, seen = s'.push es[i].born := by
  rw [Array.back?_eq_some_iff] at hb2
  obtain ⟨ys', hys'⟩ := hb2
  exact ⟨ys', hys'⟩
 rw [hpush] at a
 have hs0 := run_entry_at (P := P) w it r since seen' es clock es[i] a b (by simp) d.1
 rw [hk, hv] at hs0
 exact hs0
end
end Go.Rn
end
section
/- Functions that are ranged over: what they give; a range that goes to its end. -/
set_option maxRecDepth 4000
namespace Go.Rn
open Go.RowKit
theorem obj_ext {S : Nat → Prop} {w w' : World} {b : Nat} {o : Obj} (h : w.heap[b]? = some o) (e : ExtB S w w') (hn : ¬ S b) : w'.heap[b]? = some o := by rw [e.block b (lt_of_get h) hn]; exact h
/-- f, called with a yield that goes on, hands it xs in this order; it reads no block outside F. -/
def Gives (P : Program) (f : Value) (xs : List (List Value)) (w0 : World) (F : Nat → Prop) : Prop :=
 ∀ (S : Nat → Prop) (J : Nat → World → Prop) (y : Value) (w : World), (∀ k, F k → ¬ S k) → J 0 w → (∀ i w1, J i w1 → ExtB S w0 w1) → (∀ i w1 w2, J i w1 → Ext w1 w2 → J i w2) →
  (∀ i x w1, xs[i]? = some x → J i w1 → FnV P y x w1 (fun r w2 => r = .bool true ∧ J (i + 1) w2) fun _ _ => False) → FnV P f [y] w (fun _ w' => J xs.length w') fun _ _ => False
structure LoopAt (w : World) (L D : Nat) (lp : Loop) : Prop where
 l : w.heap[L]? = some (.loop lp)
 d : w.heap[D]? = some (.deferred (some []))
theorem LoopAt.ext {S : Nat → Prop} {w w' : World} {L D : Nat} {lp : Loop} (h : LoopAt w L D lp) (e : ExtB S w w') (h1 : ¬ S L) (h2 : ¬ S D) : LoopAt w' L D lp := ⟨obj_ext h.l e h1, obj_ext h.d e h2⟩
theorem LoopAt.up {w w' : World} {L D : Nat} {lp : Loop} (h : LoopAt w L D lp) (e : Ext w w') : LoopAt w' L D lp := h.ext e id id
/-- A round that ends at its end. -/
def RoundJ (L D : Nat) (lp : Loop) (K : World → Prop) : Out → Act → World → Prop
 | .fall, _, w => K w ∧ LoopAt w L D { lp with state := .busy }
 | _, _, _ => False
section
variable {P : Program} {c : Ctx} {k : List Item} {Q : Out → Act → World → Prop} {w : World} {n : Nat} {ds : List Deferred} {env : Env}
theorem RunE.beginR {fn : FuncId} {kind : CallKind} {L D : Nat} {lp : Loop} (hl : LoopAt w L D lp) (hs : lp.state = .ready) (hn : L ≠ D)
  (h : ∀ w', ExtB (· = L) w w' → LoopAt w' L D { lp with state := .busy } → RunE P ⟨fn, kind, some L⟩ n ds k Q env w') : RunE P ⟨fn, kind, some L⟩ n ds (.beginRound :: k) Q env w :=
 .beginRound hl.l hs fun w' t => h w' t.ext ⟨t.at_, obj_ext hl.d t.ext (fun e => hn e.symm)⟩
theorem RunE.endR {L D : Nat} {lp : Loop} {K : World → Prop} (hK : K w) (hl : LoopAt w L D { lp with state := .busy }) : RunE P c n ds [] (RoundJ L D lp K) env w := .nil fun _ _ => ⟨hK, hl⟩
theorem RunE.rangeGives {f : Operand} {params : Array Tmp} {assign body : Code} {fv : Value} {xs : List (List Value)} {w0 : World} {F : Nat → Prop} (hc : c.round = none) (hfn : ∃ g, P.funcs[c.fn]? = some g)
  (hf : evO env f = some fv) (hG : Gives P fv xs w0 F) (S0 : Nat → Prop) (hF : ∀ k, F k → ¬ S0 k ∧ k < w.heap.size) (hX : ExtB S0 w0 w)
  (hlen : ∀ x ∈ xs, x.length = params.toList.length) (hp : params.toList.all (Nat.blt · n) = true) (J : Nat → World → Prop)
  (h0 : ∀ w2, Ext w w2 → w2.heap.size = w.heap.size + 2 → J 0 w2) (hJS : ∀ i w1, J i w1 → ExtB S0 w w1)
  (hJup : ∀ i w1 w2, J i w1 → ExtB (fun k => k = w.heap.size ∨ k = w.heap.size + 1) w1 w2 → J i w2)
  (hb : ∀ i x w1 lp, xs[i]? = some x → J i w1 → LoopAt w1 (w.heap.size + 1) w.heap.size lp → lp.state = .ready →
   RunE P ⟨c.fn, .normal, some (w.heap.size + 1)⟩ n [] [.code assign, .beginRound, .code body] (RoundJ (w.heap.size + 1) w.heap.size lp (J (i + 1))) (parEnv params.toList x env) w1)
  (h : ∀ w', J xs.length w' → w'.heap[w.heap.size]? = some (.deferred (some [])) → RunE P c n (markOf w.heap.size :: ds) k Q env w') :
  RunE P c n ds (.code (.rangeFunc f params assign body) :: k) Q env w := by
 refine RunE.rangeFunc hc hf fun a D L w1 w2 lp hst h1 h2 hlp => ?_
 obtain rfl : D = w.heap.size := h1.eq
 have e2 := h2.eq
 rw [h1.size] at e2
 subst e2
 have hX2 : Ext w w2 := h1.ext.trans h2.ext
 have hL2 : LoopAt w2 (w.heap.size + 1) w.heap.size lp := ⟨h2.at_, obj_ext h1.at_ h2.ext id⟩
 have hsz : w2.heap.size = w.heap.size + 2 := h2.size
 refine FnV.mono (hG (fun k => S0 k ∨ w.heap.size ≤ k) (fun i w' => J i w' ∧ LoopAt w' (w.heap.size + 1) w.heap.size lp) (yieldV (w.heap.size + 1)) w2 ?_ ⟨h0 w2 hX2 hsz, hL2⟩ ?_ ?_ ?_) ?_ (fun _ _ h => h)
 ·intro k hk hs
  have := hF k hk
  rcases hs with hs | hs
  ·exact this.1 hs
  ·omega
 ·rintro i w' ⟨hj, -⟩
  exact (hX.trans (hJS i w' hj)).mono fun k _ h => .inl h
 ·rintro i u u' ⟨hj, hl⟩ e
  exact ⟨hJup i u u' hj (ExtB.of_ext e), hl.up e⟩
 ·rintro i x u hx ⟨hj, hl⟩
  refine Yield.run (env := env) hl.l hfn hst (params := params.toList) (assign := assign) (body := body) (by simpa using hlp) (hlen x (List.mem_of_getElem? hx)) hp rfl ?_
  intro a' ha' cs
  obtain ⟨o, a1, u1, hq, hfin⟩ := hb i x u lp hx hj hl hlp.state a' ha' cs
  refine ⟨o, a1, u1, ?_, hfin⟩
  cases o with
  | fall =>
   obtain ⟨hK, hl1⟩ := hq
   refine ⟨_, hl1.l, fun u2 t2 => ⟨rfl, hJup _ _ _ hK (t2.ext.mono fun k _ h => .inr h), ?_, obj_ext hl1.d t2.ext (by omega)⟩⟩
   have := t2.at_
   rwa [show ({ ({ lp with state := .busy } : Loop) with state := .ready, pending := none } : Loop) = lp from hlp.back] at this
  | ret => exact hq.elim
  | exit id => exact hq.elim
  | panic ch => exact hq.elim
 ·rintro _ w3 ⟨hj, hl⟩
  refine ⟨lp, hl.l, by rw [hlp.state]; rfl, fun w4 t4 => ?_⟩
  rw [hlp.pending]
  refine RunE.at_ hst (h w4 (hJup _ _ _ hj (t4.ext.mono fun k _ h => .inr h)) (obj_ext hl.d t4.ext (by omega)))
end
end Go.Rn
end
section
/- Functions that are ranged over, by loops that may be left by a return. -/
set_option maxRecDepth 4000
namespace Go.Rn
open Go.RowKit
/-- f, called with a yield that goes on or stops it, hands it xs in this order; it reads no block outside F. -/
def GivesS (P : Program) (f : Value) (xs : List (List Value)) (w0 : World) (F : Nat → Prop) : Prop :=
 ∀ (S : Nat → Prop) (J : Nat → World → Prop) (Z : World → Prop) (y : Value) (w : World), (∀ k, F k → ¬ S k) → J 0 w → (∀ i w1, J i w1 → ExtB S w0 w1) → (∀ i w1 w2, J i w1 → Ext w1 w2 → J i w2) → (∀ w1 w2, Z w1 → Ext w1 w2 → Z w2) →
  (∀ i x w1, xs[i]? = some x → J i w1 → FnV P y x w1 (fun r w2 => (r = .bool true ∧ J (i + 1) w2) ∨ (r = .bool false ∧ Z w2)) fun _ _ => False) → FnV P f [y] w (fun _ w' => J xs.length w' ∨ Z w') fun _ _ => False
/-- A round that ends at its end, or returns. -/
def RoundS (L D : Nat) (lp : Loop) (K Z : World → Prop) : Out → Act → World → Prop
 | .fall, _, w => K w ∧ LoopAt w L D { lp with state := .busy }
 | .ret, _, w => Z w ∧ LoopAt w L D { lp with state := .busy }
 | _, _, _ => False
section
variable {P : Program} {c : Ctx} {k : List Item} {Q : Out → Act → World → Prop} {w : World} {n : Nat} {ds : List Deferred} {env : Env}
theorem RunE.endS {L D : Nat} {lp : Loop} {K Z : World → Prop} (hK : K w) (hl : LoopAt w L D { lp with state := .busy }) : RunE P c n ds [] (RoundS L D lp K Z) env w := .nil fun _ _ => ⟨hK, hl⟩
theorem RunE.stopS {L D : Nat} {lp : Loop} {K Z : World → Prop} (hZ : Z w) (hl : LoopAt w L D { lp with state := .busy }) : RunE P c n ds (.code .ret :: k) (RoundS L D lp K Z) env w := .ret fun _ _ => ⟨hZ, hl⟩
theorem RunE.rangeGivesS {f : Operand} {params : Array Tmp} {assign body : Code} {fv : Value} {xs : List (List Value)} {w0 : World} {F : Nat → Prop} (hc : c.round = none) (hfn : ∃ g, P.funcs[c.fn]? = some g)
  (hf : evO env f = some fv) (hG : GivesS P fv xs w0 F) (S0 : Nat → Prop) (hF : ∀ k, F k → ¬ S0 k ∧ k < w.heap.size) (hX : ExtB S0 w0 w)
  (hlen : ∀ x ∈ xs, x.length = params.toList.length) (hp : params.toList.all (Nat.blt · n) = true) (J : Nat → World → Prop) (Z : World → Prop)
  (h0 : ∀ w2, Ext w w2 → w2.heap.size = w.heap.size + 2 → J 0 w2) (hJS : ∀ i w1, J i w1 → ExtB S0 w w1)
  (hJup : ∀ i w1 w2, J i w1 → ExtB (fun k => k = w.heap.size ∨ k = w.heap.size + 1) w1 w2 → J i w2)
  (hZup : ∀ w1 w2, Z w1 → ExtB (fun k => k = w.heap.size ∨ k = w.heap.size + 1) w1 w2 → Z w2)
  (hb : ∀ i x w1 lp, xs[i]? = some x → J i w1 → LoopAt w1 (w.heap.size + 1) w.heap.size lp → lp.state = .ready →
   RunE P ⟨c.fn, .normal, some (w.heap.size + 1)⟩ n [] [.code assign, .beginRound, .code body] (RoundS (w.heap.size + 1) w.heap.size lp (J (i + 1)) Z) (parEnv params.toList x env) w1)
  (h : ∀ w', J xs.length w' → w'.heap[w.heap.size]? = some (.deferred (some [])) → RunE P c n (markOf w.heap.size :: ds) k Q env w')
  (h' : ∀ w', Z w' → w'.heap[w.heap.size]? = some (.deferred (some [])) → RunE P c n (markOf w.heap.size :: ds) (.code .ret :: k) Q env w') :
  RunE P c n ds (.code (.rangeFunc f params assign body) :: k) Q env w := by
 refine RunE.rangeFunc hc hf fun a D L w1 w2 lp hst h1 h2 hlp => ?_
 obtain rfl : D = w.heap.size := h1.eq
 have e2 := h2.eq
 rw [h1.size] at e2
 subst e2
 have hX2 : Ext w w2 := h1.ext.trans h2.ext
 have hL2 : LoopAt w2 (w.heap.size + 1) w.heap.size lp := ⟨h2.at_, obj_ext h1.at_ h2.ext id⟩
 have hsz : w2.heap.size = w.heap.size + 2 := h2.size
 refine FnV.mono (hG (fun k => S0 k ∨ w.heap.size ≤ k) (fun i w' => J i w' ∧ LoopAt w' (w.heap.size + 1) w.heap.size lp) (fun w' => Z w' ∧ LoopAt w' (w.heap.size + 1) w.heap.size { lp with state := .done, pending := some .ret }) (yieldV (w.heap.size + 1)) w2 ?_ ⟨h0 w2 hX2 hsz, hL2⟩ ?_ ?_ ?_ ?_) ?_ (fun _ _ h => h)
 ·intro k hk hs
  have := hF k hk
  rcases hs with hs | hs
  ·exact this.1 hs
  ·omega
 ·rintro i w' ⟨hj, -⟩
  exact (hX.trans (hJS i w' hj)).mono fun k _ h => .inl h
 ·rintro i u u' ⟨hj, hl⟩ e
  exact ⟨hJup i u u' hj (ExtB.of_ext e), hl.up e⟩
 ·rintro u u' ⟨hj, hl⟩ e
  exact ⟨hZup u u' hj (ExtB.of_ext e), hl.up e⟩
 ·rintro i x u hx ⟨hj, hl⟩
  refine Yield.run (env := env) hl.l hfn hst (params := params.toList) (assign := assign) (body := body) (by simpa using hlp) (hlen x (List.mem_of_getElem? hx)) hp rfl ?_
  intro a' ha' cs
  obtain ⟨o, a1, u1, hq, hfin⟩ := hb i x u lp hx hj hl hlp.state a' ha' cs
  refine ⟨o, a1, u1, ?_, hfin⟩
  cases o with
  | fall =>
   obtain ⟨hK, hl1⟩ := hq
   refine ⟨_, hl1.l, fun u2 t2 => .inl ⟨rfl, hJup _ _ _ hK (t2.ext.mono fun k _ h => .inr h), ?_, obj_ext hl1.d t2.ext (by omega)⟩⟩
   have := t2.at_
   rwa [show ({ ({ lp with state := .busy } : Loop) with state := .ready, pending := none } : Loop) = lp from hlp.back] at this
  | ret =>
   obtain ⟨hK, hl1⟩ := hq
   exact ⟨_, hl1.l, fun u2 t2 => .inr ⟨rfl, hZup _ _ hK (t2.ext.mono fun k _ h => .inr h), t2.at_, obj_ext hl1.d t2.ext (by omega)⟩⟩
  | exit id => exact hq.elim
  | panic ch => exact hq.elim
 ·rintro _ w3 (⟨hj, hl⟩ | ⟨hj, hl⟩)
  ·refine ⟨lp, hl.l, by rw [hlp.state]; rfl, fun w4 t4 => ?_⟩
   rw [hlp.pending]
   refine RunE.at_ hst (h w4 (hJup _ _ _ hj (t4.ext.mono fun k _ h => .inr h)) (obj_ext hl.d t4.ext (by omega)))
  ·refine ⟨_, hl.l, rfl, fun w4 t4 => ?_⟩
   exact RunE.at_ hst (h' w4 (hZup _ _ hj (t4.ext.mono fun k _ h => .inr h)) (obj_ext hl.d t4.ext (by omega)))
end
end Go.Rn
end
section
/- Loops whose rounds leave marks of ranges over functions. -/
set_option maxRecDepth 4000
namespace Go.Rn
open Go.RowKit
section
variable {P : Program} {c : Ctx} {k : List Item} {Q : Out → Act → World → Prop} {w : World} {n : Nat} {ds : List Deferred} {env : Env}
theorem RunE.loopD {ι : Type} {body : Code} (E : ι → Env) (D : ι → List Deferred) (I : ι → World → Prop) (μ : ι → Nat) (x0 : ι) (hs : Sub (E x0) env) (hd : D x0 = ds) (h0 : I x0 w)
  (h : ∀ x w, I x w → (∀ y w', μ y < μ x → I y w' → RunE P c n (D y) (.inLoop body :: k) Q (E y) w') → RunE P c n (D x) (.code body :: .inLoop body :: k) Q (E x) w) :
  RunE P c n ds (.code (.loop body) :: k) Q env w := by
 have key : ∀ m x w, μ x ≤ m → I x w → RunE P c n (D x) (.code body :: .inLoop body :: k) Q (E x) w := by
  intro m
  induction m with
  | zero => intro x w hx hI; exact h x w hI (fun y w' hy _ => by omega)
  | succ m ih => intro x w hx hI; exact h x w hI (fun y w' hy hI' a ha => .inLoop (ih y w' (by omega) hI' a ha))
 subst hd
 exact .weaken hs (fun a ha => .loop (key (μ x0) x0 w (Nat.le_refl _) h0 a ha))
theorem Leaves.marks {g : FuncId} {tmps : Array Value} {todo : List Item} {kind : CallKind} {R : Value → World → Prop} {X : List PanicEntry → World → Prop} : ∀ (Ds : List Nat) {w : World}, (∀ D ∈ Ds, w.heap[D]? = some (.deferred (some []))) → Ds.Nodup →
  (∀ w', ExtB (· ∈ Ds) w w' → Leaves P { fn := g, tmps, todo, defers := [], mode := .returning, kind } R X w') → Leaves P { fn := g, tmps, todo, defers := Ds.map markOf, mode := .returning, kind } R X w
 | [], w, _, _, h => h w (ExtB.refl _ _)
 | D :: Ds, w, hD, hn, h => by
  have hn' := List.nodup_cons.1 hn
  refine Leaves.mark (hD D List.mem_cons_self) fun w' t => Leaves.marks Ds (fun D' hD' => ?_) hn'.2 fun w'' e => h w'' ?_
  ·exact obj_ext (hD D' (List.mem_cons_of_mem _ hD')) t.ext (fun e => hn'.1 (e ▸ hD'))
  ·exact (t.ext.mono fun k _ h => by subst h; exact List.mem_cons_self).trans (e.mono fun k _ h => List.mem_cons_of_mem _ h)
theorem RunE.retFnM {g : FuncId} {fn : Func} (Ds : List Nat) {R : Value → World → Prop} {X : List PanicEntry → World → Prop} (hf : P.funcs[g]? = some fn) (hD : ∀ D ∈ Ds, w.heap[D]? = some (.deferred (some []))) (hn : Ds.Nodup)
  (h : ∀ w', ExtB (· ∈ Ds) w w' → ∃ vs, ResOk P w' env fn.results.toList vs ∧ R (oneOr vs) w') : RunE P c n (Ds.map markOf) (.code .ret :: k) (FnQ P g R X) env w :=
 .ret fun a ha todo => by
  rw [ha.defers]
  refine Leaves.marks Ds hD hn fun w' ht => ?_
  obtain ⟨vs, h1, h2⟩ := h w' ht
  exact Leaves.ret hf (h1.resultsRun ha) h2
end
end Go.Rn
end
section
/- Deeds: who did a deed with an Id; the arrays of Check; what seen gives. -/
set_option maxRecDepth 4000
namespace Go.Rn
open Go.RowKit
theorem setAt_mid3 : ∀ (vs a b c : List Value), b.length = vs.length → setAt (a ++ (b ++ c)) a.length vs = a ++ (vs ++ c)
 | [], a, b, c, h => by
  have : b = [] := List.length_eq_zero_iff.1 h
  subst this; rfl
 | v :: r, a, [], c, h => by simp at h
 | v :: r, a, x :: b, c, h => by
  have e : (a ++ (x :: b ++ c)).set a.length v = (a ++ [v]) ++ (b ++ c) := by
   rw [List.set_append_right _ _ (Nat.le_refl _), Nat.sub_self]; simp
  show setAt ((a ++ (x :: b ++ c)).set a.length v) (a.length + 1) r = _
  have e2 : a.length + 1 = (a ++ [v]).length := by simp
  rw [e, e2, setAt_mid3 r (a ++ [v]) b c (by simpa using h)]
  simp
end Go.Rn
namespace Go.Rec
open Go.Rn
theorem setAt_flat {α : Type} {enc : α → List Value} {k : Nat} (h : EncOk enc k) {l : List α} {j : Nat} (hj : j < l.length) (y : α) : setAt (flat enc l) (0 + j * k) (enc y) = flat enc (l.set j y) := by
 have e1 : l = l.take j ++ l[j] :: l.drop (j + 1) := by rw [← List.drop_eq_getElem_cons hj, List.take_append_drop]
 have e2 : l.set j y = l.take j ++ y :: l.drop (j + 1) := List.set_eq_take_append_cons_drop.trans (by rw [if_pos hj])
 have e3 : (flat enc (l.take j)).length = 0 + j * k := by rw [flat_length h, List.length_take, Nat.min_eq_left (by omega), Nat.zero_add]
 rw [e2, flat_append, flat_cons, ← e3]
 conv => lhs; arg 1; rw [e1, flat_append, flat_cons]
 exact setAt_mid3 _ _ _ _ ((h.len _).trans (h.len _).symm)
section
variable {P : Program} {c : Ctx} {k : List Item} {Q : Out → Act → World → Prop} {w : World} {n : Nat} {ds : List Deferred} {env : Env}
variable {ops : Array Oper} {d : Tmp} {op : Op} {ty : TypeId} {pos : String} {after : Array Edge} {guard : Option (Nat × Bool)} {rest : List Oper}
theorem RunL.storeFlat {T : Tab} (hT : T.Ok P) {t bt : TypeId} {i : TI} {x y : Operand} {b : Nat} {v : Value} {α : Type} {enc : α → List Value} {sz : Nat} (h : EncOk enc sz) {l : List α} (j : Nat) (z : α)
  (hw : wantE ops.toList env ⟨none, .store t x y, ty, pos, after, guard⟩ = some true) (hx : evO env x = some (.pointer (some ⟨b, 0 + j * sz, none⟩))) (hy : evO env y = some v)
  (ht : T.get t = some i) (hsz : i.size = sz) (hv : v.cells.toList = enc z) (hb : Blk w b (flat enc l) bt) (hj : j < l.length)
  (hk : ∀ w', Turned w w' b (.cells (flat enc (l.set j z)).toArray bt (0, 0)) → RunL P c n ds ops rest k Q env w') :
  RunL P c n ds ops (⟨none, .store t x y, ty, pos, after, guard⟩ :: rest) k Q env w := by
 refine RunL.store hT hw hx hy ht (by rw [hv, h.len, hsz]) hb ?_ (by rw [hv]; exact h.plain z) fun w' t' => ?_
 ·rw [hv, h.len, Nat.ble_eq, flat_length h]
  have := Nat.mul_le_mul_right sz (show j + 1 ≤ l.length from hj)
  rw [Nat.add_mul] at this; omega
 ·rw [hv, setAt_flat h hj] at t'
  exact hk w' t'
end
theorem flat_rep {α : Type} {enc : α → List Value} {k : Nat} {x : α} {v : Value} (h : enc x = List.replicate k v) : ∀ n, flat enc (List.replicate n x) = List.replicate (n * k) v
 | 0 => by simp [flat]
 | n + 1 => by
  rw [List.replicate_succ, flat_cons, flat_rep h n, h, List.replicate_append_replicate]
  congr 1
  rw [Nat.add_mul]; omega
end Go.Rec
namespace Go.Dee
open Go.Rn Go.RowKit Go.Rec Go.Sha Go.Sg
def whoD (pre : List Deed) (x : Dg) : List Int := (pre.filter fun y => idD y == x).map (·.person)
def otherI (p : Int) (l : List Int) : Int := l.foldl (fun o q => if q ≠ p then q else o) (-1)
theorem whoD_snoc (pre : List Deed) (d : Deed) (x : Dg) : whoD (pre ++ [d]) x = whoD pre x ++ (if idD d = x then [d.person] else []) := by
 unfold whoD
 rw [List.filter_append, List.map_append]
 congr 1
 by_cases h : idD d = x
 ·rw [if_pos h, List.filter_cons, if_pos (beq_iff_eq.2 h)]; rfl
 ·rw [if_neg h, List.filter_cons, if_neg (by rw [beq_iff_eq]; exact h)]; rfl
theorem other_go (p : Int) : ∀ (l : List Int) (o : Int), (∀ q ∈ l, 0 ≤ q) → (l.foldl (fun o q => if q ≠ p then q else o) o < 0 ↔ (o < 0 ∧ ∀ q ∈ l, q = p))
 | [], o, _ => by simp
 | q :: l, o, h => by
  rw [List.foldl_cons, other_go p l _ fun r hr => h r (List.mem_cons_of_mem _ hr)]
  have hq := h q List.mem_cons_self
  by_cases e : q = p
  ·subst e; simp
  ·simp [e]; omega
theorem other_met {pre : List Deed} {p : Int} {x : Dg} (h : ∀ y ∈ pre, 0 ≤ y.person) : otherI p (whoD pre x) < 0 ↔ metD pre p x = false := by
 unfold otherI
 rw [other_go p _ _ fun q hq => by
  obtain ⟨y, hy, rfl⟩ := List.mem_map.1 hq
  exact h y (List.mem_filter.1 hy).1]
 cases hm : metD pre p x with
 | true =>
  unfold metD at hm
  simp only [Bool.and_eq_true, List.any_eq_true, beq_iff_eq, decide_eq_true_eq] at hm
  obtain ⟨y, hy, h1, h2⟩ := hm
  simp only [reduceCtorEq, iff_false, not_and]
  intro _ hall
  exact h1 (hall _ (List.mem_map.2 ⟨y, List.mem_filter.2 ⟨hy, beq_iff_eq.2 h2⟩, rfl⟩))
 | false =>
  simp only [iff_true]
  refine ⟨by omega, fun q hq => ?_⟩
  obtain ⟨y, hy, rfl⟩ := List.mem_map.1 hq
  obtain ⟨h1, h2⟩ := List.mem_filter.1 hy
  by_cases e : y.person = p
  ·exact e
  ·have : metD pre p x = true := by
    unfold metD
    simp only [Bool.and_eq_true, List.any_eq_true, beq_iff_eq, decide_eq_true_eq]
    exact ⟨y, h1, e, beq_iff_eq.1 h2⟩
   rw [this] at hm; cases hm
end Go.Dee
namespace Go.Sg
open Go.Rn Go.Proofs Go.Dee Go.Rec Go.RowKit Go.Sha Go.Cod Go.NT
abbrev MDg (w : World) (r : Nat) (m : List (List UInt8 × Value)) : Prop := MapK digV (fun l => l.length = 32) w r m
/-- What the map of Check holds. -/
structure ByOk (w : World) (base : Nat) (m : List (List UInt8 × Value)) (pre : List Deed) : Prop where
 get : ∀ x : Dg, match getM x.1 m with
  | none => whoD pre x = []
  | some v => w.ownsRow base 3 1 v (whoD pre x).length (flat intC' (whoD pre x))
 ap : ∀ (x y : Dg) (v v' : Value) (k : Nat), x ≠ y → getM x.1 m = some v → getM y.1 m = some v' → v.ownBlock = some k → v'.ownBlock = some k → False
theorem ByOk.nil (w : World) (base : Nat) : ByOk w base [] [] := ⟨fun x => rfl, fun x y v v' k _ h => by simp [getM] at h⟩
theorem ByOk.up {w w' : World} {base : Nat} {m : List (List UInt8 × Value)} {pre : List Deed} (h : ByOk w base m pre) (e : Ext w w') : ByOk w' base m pre := by
 refine ⟨fun x => ?_, h.ap⟩
 have := h.get x
 cases hx : getM x.1 m with
 | none => rw [hx] at this; exact this
 | some v => rw [hx] at this; exact World.ownsRow.up this e
theorem ByOk.ext {S : Nat → Prop} {w w' : World} {base : Nat} {m : List (List UInt8 × Value)} {pre : List Deed} (h : ByOk w base m pre) (e : ExtB S w w') (hS : ∀ k cs, base ≤ k → w.heap[k]? = some (.cells cs 3 (0, 0)) → ¬ S k) : ByOk w' base m pre := by
 refine ⟨fun x => ?_, h.ap⟩
 have := h.get x
 cases hx : getM x.1 m with
 | none => rw [hx] at this; exact this
 | some v =>
  rw [hx] at this
  refine ownsRow_ext this e fun k hk => ?_
  rcases this.2 with ⟨rfl, -⟩ | ⟨g, c, cur, rfl, hb, hg, -⟩
  ·simp [Value.ownBlock] at hk
  ·have : k = g := by simpa [Value.ownBlock] using hk.symm
   subst this
   exact hS k cur hb hg
/-- The list that is found under an Id. -/
theorem ByOk.own {w : World} {base : Nat} {m : List (List UInt8 × Value)} {pre : List Deed} (h : ByOk w base m pre) (x : Dg) : w.ownsRow base 3 1 ((getM x.1 m).getD nilV) (whoD pre x).length (flat intC' (whoD pre x)) := by
 have := h.get x
 cases hx : getM x.1 m with
 | none =>
  rw [hx] at this
  rw [this]; exact World.ownsRow_nil _ _ _ _
 | some v => rw [hx] at this; exact this
/-- One more deed. -/
theorem ByOk.snoc {w w' : World} {base : Nat} {m : List (List UInt8 × Value)} {pre : List Deed} {d : Deed} {u : Value} (h : ByOk w base m pre) (e : ExtB (fun k => ((getM (idD d).1 m).getD nilV).ownBlock = some k) w w')
  (hu : w'.ownsRow base 3 1 u ((whoD pre (idD d)).length + 1) (flat intC' (whoD pre (idD d)) ++ intC' d.person)) (ho : ∀ k, u.ownBlock = some k → k < w.heap.size → ((getM (idD d).1 m).getD nilV).ownBlock = some k) : ByOk w' base (setM (idD d).1 u m) (pre ++ [d]) := by
 have hne : ∀ x : Dg, idD d ≠ x → x.1 ≠ (idD d).1 := fun x hx e => hx (Subtype.ext e.symm)
 have hlt : ∀ (x : Dg) (v : Value) (k : Nat), getM x.1 m = some v → v.ownBlock = some k → k < w.heap.size := fun x v k hx hk => by
  have := h.get x
  rw [hx] at this
  rcases this.2 with ⟨rfl, -⟩ | ⟨g, c, cur, rfl, hb, hg, -⟩
  ·simp [Value.ownBlock] at hk
  ·simp [Value.ownBlock] at hk; subst hk; exact lt_of_get hg
 have hno : ∀ (x : Dg) (v : Value) (k : Nat), idD d ≠ x → getM x.1 m = some v → v.ownBlock = some k → ¬ ((getM (idD d).1 m).getD nilV).ownBlock = some k := fun x v k hx hv hk hk' => by
  cases hd : getM (idD d).1 m with
  | none => rw [hd] at hk'; simp [Value.ownBlock] at hk'
  | some v' =>
   rw [hd] at hk'
   exact h.ap (idD d) x v' v k hx hd hv hk' hk
 refine ⟨fun x => ?_, fun x y v v' k hxy hx hy hk hk' => ?_⟩
 ·rw [whoD_snoc, getM_set]
  by_cases hx : idD d = x
  ·subst hx
   rw [if_pos rfl, if_pos rfl, List.length_append, flat_append]
   exact hu
  ·rw [if_neg (hne x hx), if_neg hx, List.append_nil]
   have := h.get x
   cases hxm : getM x.1 m with
   | none => rw [hxm] at this; exact this
   | some v =>
    rw [hxm] at this
    exact ownsRow_ext this e fun k hk => hno x v k hx hxm hk
 ·rw [getM_set] at hx hy
  by_cases h1 : x.1 = (idD d).1
  ·have h2 : ¬ y.1 = (idD d).1 := fun e => hxy (Subtype.ext (h1.trans e.symm))
   rw [if_pos h1] at hx
   rw [if_neg h2] at hy
   cases hx
   have hlt' := hlt y v' k hy hk'
   exact hno y v' k (fun e => h2 (by rw [e])) hy hk' (ho k hk hlt')
  ·rw [if_neg h1] at hx
   by_cases h2 : y.1 = (idD d).1
   ·rw [if_pos h2] at hy
    cases hy
    have hlt' := hlt x v k hx hk
    exact hno x v k (fun e => h1 (by rw [e])) hx hk (ho k hk' hlt')
   ·rw [if_neg h2] at hy
    exact h.ap x y v v' k hxy hx hy hk hk'
theorem keyDg : KeyOk Tryz.prog 32 digV fun l => l.length = 32 := keyOk_bytes bytesArr
end Go.Sg
end
section
/- Deeds: seen, ranged over. -/
set_option maxRecDepth 4000
namespace Go.Sg
open Go.Rn Go.Proofs Go.Dee Go.Rec Go.RowKit Go.Sha Go.Cod Go.NT
section
variable {P : Program} {w : World} {env : Env} {dst : Option Tmp} {ty : TypeId} {pos : String} {after : Array Edge} {guard : Option (Nat × Bool)}
theorem OpV.lookupDg {t kt et : TypeId} {x y : Operand} {r : Nat} {g : Dg} {m : List (List UInt8 × Value)} {z : Value} (ht : P.underlying t = some (.map kt et)) (hk : KeyOk P kt digV fun l => l.length = 32) (hz : (P.info? et).bind (·.zero) = some z)
  (hx : evO env x = some (.map (some r))) (hy : evO env y = some (.agg (digC g).toArray)) (hm : MDg w r m) :
  OpV P env w ⟨dst, .lookup t x y false, ty, pos, after, guard⟩ ((getM g.1 m).getD z) := by
 rw [digV_eq] at hy
 exact OpV.lookup ht hk hz hx hy g.2 hm
end
attribute [local irreducible] Go.Rn.RetsX Go.Rn.RunLN Go.Rn.AsyN Go.Rn.RunL Go.Rn.RunE Go.Rn.Asy Go.Rn.OpV Go.Rn.OpE Go.Rn.ExecE
abbrev seenV (b c : Nat) : Value := .func (.func 78) #[] #[.pointer (some ⟨b, 0, none⟩), .pointer (some ⟨c, 0, none⟩)]
def seenX (pre : List Deed) (d : Deed) : List (List Value) := d.seen.map fun x => [.agg (digC x).toArray, .int .i64 (otherI d.person (whoD pre x))]
theorem other_step (p q : Int) (l : List Int) : otherI p (l ++ [q]) = if q ≠ p then q else otherI p l := by
 unfold otherI
 rw [List.foldl_append]; rfl
set_option maxRecDepth 4000 in
set_option maxHeartbeats 2000000 in
theorem seen_gives (d : Deed) (u v : Value) (pre : List Deed) (m : List (List UInt8 × Value)) (R base b c : Nat) (w0 : World) (hs : LDg w0 u d.seen) (hl : d.seen.length < 9223372036854775808) (hp : pre.length ≤ 4096) (hD : Blk w0 b (dCells d u v) 38) (hC : Blk w0 c [.map (some R)] 76) (hM : MDg w0 R m) (hB : ByOk w0 base m pre) :
  GivesS Tryz.prog (seenV b c) (seenX pre d) w0 (fun k => k < w0.heap.size) := by
 intro S J Z y w hS h0 hJX hJup hZup hy
 refine RetsX.v (fi := []) (args := [y]) (ca := [.pointer (some ⟨b, 0, none⟩), .pointer (some ⟨c, 0, none⟩)]) ?_
 change RetsX Tryz.prog 78 [y, .pointer (some ⟨b, 0, none⟩), .pointer (some ⟨c, 0, none⟩)] _ _ _
 have hlen : (seenX pre d).length = d.seen.length := by simp [seenX]
 rw [hlen]
 have hown : ∀ {sz n : Nat} {q : Value} {cs : List Value} {w' : World}, ExtB S w0 w' → IsSl w0 sz q n cs → 0 < n → 0 < sz → IsSl w' sz q n cs := fun e h h1 h2 => h.ext e fun k hk hSk => hS k (h.lt h1 h2 hk) hSk
 have hsl : ∀ w', ExtB S w0 w' → LDg w' u d.seen := fun w' e => isL_ext hs e fun hne k hk hSk => hS k (isL_own hs (by decide) hne hk) hSk
 refine RetsX.of (nt := 36) Tryz.func78 (by kernel_rfl) rfl rfl (by simp) (by simp only [argEnv]; rfl) ?_
 have E0 := hJX 0 w h0
 have D0 := hD.ext E0 (hS b hD.lt)
 have s0 := hsl w E0
 repeat' (first | (with_reducible refine RunLN.chk ?_; refine RunLN.int (by (rfl)) ?_) | refine ZzA ?_ | refine RunL.ev Tryz.tOk rfl rfl rfl ?_ | refine RunL.evV rfl rfl rfl (OpV.load1 Tryz.tOk rfl rfl rfl (Blk.cell D0 rfl)) ?_ | refine RunL.evV rfl rfl rfl (OpV.lenSl Tryz.tOk rfl rfl s0) ?_ | refine ZzQ ?_ | refine ZzR ?_ | refine ZzN ?_ | refine ZzB ?_)
 refine RunE.loop (ι := Nat) (fun s => [(0, y), (1, .pointer (some ⟨b, 0, none⟩)), (2, .pointer (some ⟨c, 0, none⟩)), (10, u), (11, .int .i64 (d.seen.length : Int)), (12, .int .i64 (s : Int))])
  (fun s w' => s ≤ d.seen.length ∧ J s w') (fun s => d.seen.length - s) 0 (by repeat (first | exact Sub.nil _ | refine Sub.cons rfl ?_)) ⟨Nat.zero_le _, h0⟩ ?_
 clear E0 D0 s0 h0
 rintro i w3 ⟨hi, hJ⟩ again
 by_cases hlt : i < d.seen.length
 ·obtain ⟨x, hx⟩ : ∃ x, d.seen[i]? = some x := ⟨_, List.getElem?_eq_getElem hlt⟩
  have E3 := hJX i w3 hJ
  obtain ⟨b1, o1, c1, rfl, hr1, -⟩ := isL_held (hsl w3 E3) hlt
  have hrx := flat_row encG hr1 hx
  have D3 := hD.ext E3 (hS b hD.lt)
  have C3 := hC.ext E3 (hS c hC.lt)
  have M3 := hM.ext E3 (hS R hM.lt)
  have hB3 : LIn w3 ((getM x.1 m).getD nilV) (whoD pre x) := isL_ext (isSl_own (hB.own x)) E3 fun hne k hk hSk => hS k (isL_own (isSl_own (hB.own x)) (by decide) hne hk) hSk
  have hwl : (whoD pre x).length ≤ 4096 := by
   unfold whoD
   rw [List.length_map]
   exact Nat.le_trans (List.length_filter_le _ _) hp
  have hyx := hy i [.agg (digC x).toArray, .int .i64 (otherI d.person (whoD pre x))]
  have hxi : (seenX pre d)[i]? = some [.agg (digC x).toArray, .int .i64 (otherI d.person (whoD pre x))] := by
   unfold seenX; rw [List.getElem?_map, hx]; rfl
  have hJu := fun w' e => hJup i w3 w' hJ e
  clear hJ E3 hy
  have X := ExtB.refl (fun _ => False) w3
  repeat' (first | (with_reducible refine RunLN.decT ?_ ?_; focus omega) | refine ZzA ?_ | refine RunL.ev Tryz.tOk rfl rfl rfl ?_ | refine RunL.evV rfl rfl rfl (OpV.indexS Tryz.tOk i rfl rfl rfl (by first | rfl | omega) (by omega)) ?_ | refine RunL.evV rfl rfl rfl (OpV.loadN Tryz.tOk rfl rfl rfl rfl hrx) ?_ | refine ZzT rfl rfl ?_ | refine ZzQ ?_ | refine ZzR ?_ | refine ZzN ?_ | refine ZzB ?_ | refine ZzK ?_)
  refine RunL.alloc Tryz.tOk rfl rfl rfl fun B5 wa_ aa_ => ?_
  have gB5 := aa_.ge X
  refine RunL.storeW (vs := digC x) Tryz.tOk rfl rfl rfl rfl rfl aa_.at_ rfl rfl fun w5_ tb_ => ?_
  have Xa_ : Ext _ w5_ := aa_.ext.write tb_.ext (by intro i_ hi_ hlt_; have := aa_.eq; omega)
  have Z5 : Blk w5_ B5 (digC x) 32 := tb_.at_
  replace D3 := D3.up Xa_
  replace C3 := C3.up Xa_
  replace M3 := M3.up Xa_
  replace hB3 := hB3.up Xa_
  replace X := X.trans Xa_
  clear Xa_ aa_ tb_
  repeat' (first | (with_reducible refine RunLN.chk ?_; refine RunLN.int (by (rfl)) ?_) | refine ZzA ?_ | refine RunL.ev Tryz.tOk rfl rfl rfl ?_ | refine RunL.evV rfl rfl rfl (OpV.loadN Tryz.tOk rfl rfl rfl rfl (Blk.row Z5)) ?_ | refine RunL.evV rfl rfl rfl (OpV.load1 Tryz.tOk rfl rfl rfl (Blk.cell C3 rfl)) ?_ | refine ZzQ ?_ | refine ZzR ?_ | refine ZzN ?_)
  refine RunL.evV rfl rfl rfl (OpV.lookupDg (z := nilV) Tryz.underlying76 keyDg (by kernel_rfl) rfl rfl M3) ?_
  have hoth : otherI d.person (whoD pre x) = otherI d.person ((whoD pre x).take (whoD pre x).length) := by rw [List.take_length]
  generalize (getM x.1 m).getD nilV = lv at hB3 ⊢
  generalize whoD pre x = ps at *
  clear M3 hB
  repeat' (first | (with_reducible refine RunLN.chk ?_; refine RunLN.int (by (rfl)) ?_) | refine ZzA ?_ | refine RunL.ev Tryz.tOk rfl rfl rfl ?_ | refine RunL.evV rfl rfl rfl (OpV.lenSl Tryz.tOk rfl rfl hB3) ?_ | refine ZzN ?_ | refine ZzB ?_)
  refine RunE.loop (ι := Nat) (fun s => [(0, y), (1, .pointer (some ⟨b, 0, none⟩)), (2, .pointer (some ⟨c, 0, none⟩)), (5, .pointer (some ⟨B5, 0, none⟩)), (6, .int .i64 (otherI d.person (ps.take s))), (10, .slice (some ⟨b1, o1, none⟩) d.seen.length c1), (11, .int .i64 (d.seen.length : Int)), (12, .int .i64 (i : Int)), (18, lv), (19, .int .i64 (ps.length : Int)), (20, .int .i64 (s : Int))])
   (fun s w' => s ≤ ps.length ∧ w' = w5_) (fun s => ps.length - s) 0 (by repeat (first | exact Sub.nil _ | refine Sub.cons rfl ?_)) ⟨Nat.zero_le _, rfl⟩ ?_
  rintro j w6 ⟨hj, hw6⟩ again2
  subst hw6
  by_cases hjl : j < ps.length
  ·obtain ⟨b2, o2, c2, rfl, hr2, -⟩ := isL_held hB3 hjl
   obtain ⟨q, hq⟩ : ∃ q, ps[j]? = some q := ⟨_, List.getElem?_eq_getElem hjl⟩
   have hrq := flat_row encIn hr2 hq
   have e1 : otherI d.person (ps.take (j + 1)) = if q ≠ d.person then q else otherI d.person (ps.take j) := by
    rw [List.take_add_one, hq]; exact other_step _ _ _
   have next := again2 (j + 1) w6 (by omega) ⟨by omega, rfl⟩
   clear again2 hJu hyx again
   simp only [e1] at next
   by_cases hqp : q = d.person
   ·rw [if_neg (by simpa using hqp)] at next
    repeat' (first | (with_reducible refine RunLN.decT ?_ ?_; focus omega) | (with_reducible refine RunLN.neF ?_ ?_; focus omega) | (with_reducible refine RunLN.chk ?_; refine RunLN.int (by (first | (refine wr_i64 ?_ ?_; omega; omega) | rfl)) ?_) | refine ZzA ?_ | refine RunL.ev Tryz.tOk rfl rfl rfl ?_ | refine RunL.evV rfl rfl rfl (OpV.load1 Tryz.tOk rfl rfl rfl (Blk.cell D3 rfl)) ?_ | refine RunL.evV rfl rfl rfl (OpV.indexS Tryz.tOk j rfl rfl rfl (by first | rfl | omega) (by omega)) ?_ | refine RunL.evV rfl rfl rfl (OpV.load1 Tryz.tOk rfl rfl rfl (hrq 0 _ rfl)) ?_ | refine ZzT rfl rfl ?_ | refine ZzF rfl rfl ?_ | refine ZzQ ?_ | refine ZzR ?_ | refine ZzN ?_ | refine ZzB ?_ | refine ZzI ?_ | refine ZzK ?_)
    refine RunE.weaken ?_ next; (repeat (first | exact Sub.nil _ | refine Sub.cons rfl ?_))
   ·rw [if_pos hqp] at next
    repeat' (first | (with_reducible refine RunLN.decT ?_ ?_; focus omega) | (with_reducible refine RunLN.neT ?_ ?_; focus omega) | (with_reducible refine RunLN.chk ?_; refine RunLN.int (by (first | (refine wr_i64 ?_ ?_; omega; omega) | rfl)) ?_) | refine ZzA ?_ | refine RunL.ev Tryz.tOk rfl rfl rfl ?_ | refine RunL.evV rfl rfl rfl (OpV.load1 Tryz.tOk rfl rfl rfl (Blk.cell D3 rfl)) ?_ | refine RunL.evV rfl rfl rfl (OpV.indexS Tryz.tOk j rfl rfl rfl (by first | rfl | omega) (by omega)) ?_ | refine RunL.evV rfl rfl rfl (OpV.load1 Tryz.tOk rfl rfl rfl (hrq 0 _ rfl)) ?_ | refine ZzT rfl rfl ?_ | refine ZzQ ?_ | refine ZzR ?_ | refine ZzN ?_ | refine ZzB ?_ | refine ZzI ?_ | refine ZzK ?_)
    refine RunE.weaken ?_ next; (repeat (first | exact Sub.nil _ | refine Sub.cons rfl ?_))
  ·obtain rfl : j = ps.length := by omega
   rw [← hoth]
   clear again2 hoth
   repeat' (first | (with_reducible refine RunLN.decF ?_ ?_; focus omega) | (with_reducible refine RunLN.chk ?_; refine RunLN.int (by (rfl)) ?_) | refine ZzA ?_ | refine RunL.ev Tryz.tOk rfl rfl rfl ?_ | refine RunL.evV rfl rfl rfl (OpV.loadN Tryz.tOk rfl rfl rfl rfl (Blk.row Z5)) ?_ | refine ZzF rfl rfl ?_ | refine ZzQ ?_ | refine ZzR ?_ | refine ZzN ?_ | refine RunE.exit rfl ?_)
   refine RunL.ex rfl rfl rfl (OpE.callV rfl rfl (hyx _ hxi (hJu _ X))) ?_
   rintro _ w7 (⟨rfl, hJ7⟩ | ⟨rfl, hZ7⟩)
   ·repeat' (first | with_reducible refine ZzG rfl ?_ | (with_reducible refine RunLN.chk ?_; refine RunLN.int (by (first | (refine wr_i64 ?_ ?_; omega; omega) | rfl)) ?_) | refine RunL.ev Tryz.tOk rfl rfl rfl ?_ | refine ZzF rfl rfl ?_ | refine ZzR ?_ | refine ZzN ?_ | refine ZzI ?_ | refine ZzK ?_)
    exact RunE.weaken (by repeat (first | exact Sub.nil _ | refine Sub.cons rfl ?_)) (again (i + 1) _ (by omega) ⟨by omega, hJ7⟩)
   ·repeat' (first | with_reducible refine ZzP rfl ?_ | refine RunL.ev Tryz.tOk rfl rfl rfl ?_ | refine ZzT rfl rfl ?_ | refine ZzN ?_)
    exact RunE.retFn Tryz.func78 .nil (.inr hZ7)
 ·obtain rfl : i = d.seen.length := by omega
  clear again
  repeat' (first | (with_reducible refine RunLN.decF ?_ ?_; focus omega) | refine RunL.ev Tryz.tOk rfl rfl rfl ?_ | refine ZzF rfl rfl ?_ | refine ZzQ ?_ | refine ZzR ?_ | refine ZzN ?_ | refine RunE.exit rfl ?_)
  exact RunE.fallFn Tryz.func78 .nil (.inl hJ)
theorem dseen_ok (d : Deed) (u v : Value) (R : Nat) (w : World) : Rets Tryz.prog 52 [.agg (dCells d u v).toArray, .map (some R)] w fun r w' => (∃ b c, r = seenV b c ∧ Blk w' b (dCells d u v) 38 ∧ Blk w' c [.map (some R)] 76) ∧ Ext w w' := by
 refine RetsX.of (nt := 6) Tryz.func52 (by kernel_rfl) rfl rfl (by simp) (by simp only [argEnv]; rfl) ?_
 have X := ExtB.refl (fun _ => False) w
 repeat' (first | refine ZzQ ?_ | refine ZzR ?_)
 refine RunL.box rfl rfl rfl fun B2 w2_ a_ => ?_
 have Z2 : Blk w2_ B2 (dCells d u v) 38 := a_.at_
 have gB2 := a_.ge X
 replace X := X.trans a_.ext
 clear a_
 skip
 refine RunL.box rfl rfl rfl fun B3 w3_ a_ => ?_
 have Z3 : Blk w3_ B3 ([.map (some R)]) 76 := a_.at_
 have gB3 := a_.ge X
 have n2_3 : B2 ≠ B3 := by have := Z2.lt; have := a_.eq; omega
 have n3_2 : B3 ≠ B2 := Ne.symm n2_3
 replace Z2 := Z2.up a_.ext
 replace X := X.trans a_.ext
 clear a_
 repeat' (first | refine ZzA ?_ | refine RunL.ev Tryz.tOk rfl rfl rfl ?_ | refine ZzQ ?_ | refine ZzR ?_ | refine ZzN ?_)
 exact RunE.retFn Tryz.func52 (.tmp rfl .nil) ⟨⟨B2, B3, rfl, Z2, Z3⟩, X⟩
end Go.Sg
end
section
/- The walks of package signatoryref11: Point, hash. -/
set_option maxRecDepth 4000
namespace Go.Sg
open Go.Rn Go.NT Go.Sha Go.Cod Go.Proofs
attribute [local irreducible] Go.Rn.RunL Go.Rn.RunE Go.Rn.Asy Go.Rn.OpV Go.Rn.OpE Go.Rn.ExecE

theorem r11_point_ok (key E S : Int) (w : World) (hE : -9223372036854775807 ≤ E ∧ E < 9223372036854775808) : Rets Tryz.prog 98 [.int .i64 key, .agg #[.int .i64 E, .int .i64 S]] w fun v w' => v = .int .i64 (mulC (powC 4 S) (powC key (-E))) ∧ Ext w w' := by
 refine RetsX.of (nt := 32) Tryz.func98 (by kernel_rfl) rfl rfl (by simp) (by simp only [argEnv]; rfl) ?_
 repeat (first | refine ZzQ ?_ | refine ZzR ?_)
 refine RunL.box rfl rfl rfl fun B5 w1 a1 => ?_
 have Z1 : Blk w1 B5 [.int .i64 E, .int .i64 S] 36 := a1.at_
 have X1 := a1.ext
 clear a1
 have hp1 := fun w => r10_pow_ok 4 S w
 have hp2 := fun w => r10_pow_ok key (-E) w
 have hp3 := fun w => r10_mul_ok (powC 4 S) (powC key (-E)) w
 generalize mulC (powC 4 S) (powC key (-E)) = R at *
 generalize grpE (validS (powC 4 S) && validS (powC key (-E))) = ee at *
 generalize grpE (validS 4) = ea at *
 generalize grpE (validS key) = eb at *
 generalize powC 4 S = p1 at *
 generalize powC key (-E) = p2 at *
 repeat (first | refine RunL.pureI Tryz.tOk rfl rfl rfl (by (rfl)) ?_ | refine RunL.pure Tryz.tOk rfl rfl rfl ?_ | refine RunL.val rfl rfl rfl (OpV.load1 Tryz.tOk rfl rfl rfl (Blk.cell Z1 rfl)) ?_ | refine ZzQ ?_ | refine ZzR ?_ | refine ZzN ?_)
 refine RunL.call rfl rfl rfl (hp1 _) ?_
 rintro _ _ ⟨rfl, rfl⟩
 repeat (first | refine RunL.pureI Tryz.tOk rfl rfl rfl (by (first | exact wr_i64 (by omega) (by omega) | rfl)) ?_ | refine RunL.pure Tryz.tOk rfl rfl rfl ?_ | refine RunL.val rfl rfl rfl (OpV.load1 Tryz.tOk rfl rfl rfl (Blk.cell Z1 rfl)) ?_ | refine ZzQ ?_ | refine ZzR ?_ | refine ZzN ?_)
 refine RunL.call rfl rfl rfl (hp2 _) ?_
 rintro _ _ ⟨rfl, rfl⟩
 repeat (first | refine RunL.pureI Tryz.tOk rfl rfl rfl (by (rfl)) ?_ | refine RunL.pure Tryz.tOk rfl rfl rfl ?_ | refine ZzQ ?_ | refine ZzR ?_ | refine ZzN ?_)
 refine RunL.call rfl rfl rfl (hp3 _) ?_
 rintro _ _ ⟨rfl, rfl⟩
 repeat (first | refine RunL.pureI Tryz.tOk rfl rfl rfl (by (rfl)) ?_ | refine RunL.pure Tryz.tOk rfl rfl rfl ?_ | refine ZzQ ?_ | refine ZzR ?_ | refine ZzN ?_)
 exact RunE.retFn Tryz.func98 (.tmp rfl .nil) ⟨rfl, X1⟩

set_option maxHeartbeats 2000000 in
theorem r11_hash_ok (R key : Int) (v : Value) (b : List UInt8) (w : World) (hR : -9223372036854775808 ≤ R ∧ R < 9223372036854775808) (hk : -9223372036854775808 ≤ key ∧ key < 9223372036854775808) (hv : IsSl w 1 v b.length (bytesV b)) (hb : b.length ≤ 800000) :
  Rets Tryz.prog 97 [.int .i64 R, .int .i64 key, v] w fun r w' => r = .int .i64 (chal R key b) ∧ Ext w w' := by
 have he := enc3_le R key b hR hk hb
 refine RetsX.of (nt := 24) Tryz.func97 (by kernel_rfl) rfl rfl (by simp) (by simp only [argEnv]; rfl) ?_
 repeat (first | refine RunL.pureI Tryz.tOk rfl rfl rfl (by (rfl)) ?_ | refine ZzQ ?_ | refine ZzR ?_ | refine ZzN ?_)
 refine RunE.draw (fun _ => False) mix ?_
 intro w1 X1
 repeat (first | refine Asy.pureI Tryz.tOk rfl rfl rfl (by (rfl)) ?_)
 refine Asy.val rfl rfl rfl rfl (fun _ _ => OpE.call rfl (rint_ok R _)) ?_
 repeat (first | refine Asy.pureI Tryz.tOk rfl rfl rfl (by (rfl)) ?_)
 refine Asy.val rfl rfl rfl rfl (fun _ _ => OpE.call rfl (rint_ok key _)) ?_
 repeat (first | refine Asy.pure Tryz.tOk rfl rfl rfl ?_)
 refine Asy.v rfl rfl rfl rfl (fun w' X' => OpV.b2sSl (l := b) Tryz.tOk rfl rfl rfl rfl (hv.extE (X1.trans X'))) ?_
 refine Asy.val rfl rfl rfl rfl (fun _ _ => OpE.call rfl (rtext_ok (strOf b) _)) ?_
 refine Asy.sat0 (fun u w' => ∃ B, u = .slice (some ⟨B, 0, none⟩) 3 3 ∧ IsSl w' 4 u 3 ([CV.int R, CV.int key, CV.text b].map rowOf).flatten) rfl rfl rfl rfl (fun u w' w'' _ e h => ?_) (fun w' _ => ?_) ?_
 ·obtain ⟨B, h1, h2⟩ := h; exact ⟨B, h1, h2.extE e⟩
 ·refine OpE.mono (OpE.buildSl Tryz.tOk [.agg (rowOf (.int R)).toArray, .agg (rowOf (.int key)).toArray, .agg (rowOf (.text b)).toArray] rfl rfl rfl rfl rfl rfl (by simp [Value.cells, rowOf])) ?_ fun _ _ h => h
  rintro _ w'' ⟨B, rfl, a⟩; exact ⟨a.ext, B, rfl, isSl_added (n := 3) (sz := 4) a rfl⟩
 refine Asy.sat1 0 (fun u w' => ∃ B, u = .agg #[.int .i64 3, .int .i64 0, .string ⟨#[]⟩, .slice (some ⟨B, 0, none⟩) 3 3] ∧ IsSl w' 4 (.slice (some ⟨B, 0, none⟩) 3 3) 3 ([CV.int R, CV.int key, CV.text b].map rowOf).flatten) rfl rfl rfl rfl rfl rfl (fun u w' w'' _ e h => ?_) (fun w' x e hx => ?_) ?_
 ·obtain ⟨B, h1, h2⟩ := h; exact ⟨B, h1, h2.extE e⟩
 ·obtain ⟨B, rfl, h2⟩ := hx
  refine OpE.mono (OpE.call rfl (rlist_ok (some ⟨B, 0, none⟩) 3 3 w')) ?_ fun _ _ h => h
  rintro _ w'' ⟨rfl, X⟩; exact ⟨X, B, rfl, h2.extE X⟩
 refine Asy.sat1 0 (fun u w' => ∃ r, u = .tuple #[r, .int .i64 0] ∧ IsSl w' 1 r (CV.list [.int R, .int key, .text b]).enc.length (bytesV (CV.list [.int R, .int key, .text b]).enc)) rfl rfl rfl rfl rfl rfl (fun u w' w'' _ e h => ?_) (fun w' x e hx => ?_) ?_
 ·obtain ⟨B, h1, h2⟩ := h; exact ⟨B, h1, h2.extE e⟩
 ·obtain ⟨B, rfl, h2⟩ := hx
  refine OpE.mono (OpE.call rfl (rEncode_ok (CV.list [.int R, .int key, .text b]) _ w' ⟨by simp, _, _, rfl, h2, ins_rows _ fun c hc => ?_⟩ (by simp [CV.depth, depths]) (by omega))) ?_ fun _ _ h => h
  ·simp only [List.mem_cons, List.not_mem_nil, or_false] at hc
   rcases hc with rfl | rfl | rfl
   ·exact ⟨hR, _, rfl⟩
   ·exact ⟨hk, _, rfl⟩
   ·exact ⟨by omega, _, rfl⟩
  ·rintro _ w'' ⟨r, rfl, h1, h2⟩; exact ⟨h2, r, rfl, isSl_own h1⟩
 refine Asy.sat1 0 (fun u w' => ∃ r, u = .tuple #[r, .int .i64 0] ∧ IsSl w' 1 r (CV.list [.int R, .int key, .text b]).enc.length (bytesV (CV.list [.int R, .int key, .text b]).enc)) rfl rfl rfl rfl rfl rfl (fun u w' w'' _ e h => ?_) (fun w' x e hx => ?_) ?_
 ·obtain ⟨B, h1, h2⟩ := h; exact ⟨B, h1, h2.extE e⟩
 ·obtain ⟨r, rfl, h2⟩ := hx
  refine OpE.mono (OpV.e (evalOp_v Tryz.tOk rfl)) ?_ fun _ _ h => h
  rintro u w'' ⟨rfl, rfl⟩; exact ⟨.refl _ _, r, rfl, h2⟩
 refine Asy.sat1 0 (fun u w' => IsSl w' 1 u (CV.list [.int R, .int key, .text b]).enc.length (bytesV (CV.list [.int R, .int key, .text b]).enc)) rfl rfl rfl rfl rfl rfl (fun u w' w'' _ e h => h.extE e) (fun w' x e hx => ?_) ?_
 ·obtain ⟨r, rfl, h2⟩ := hx
  refine OpE.mono (OpV.e (evalOp_v Tryz.tOk rfl)) ?_ fun _ _ h => h
  rintro u w'' ⟨rfl, rfl⟩; exact ⟨.refl _ _, h2⟩
 refine Asy.val1 1 (v := .int .i64 0) rfl rfl rfl rfl rfl rfl (fun w' x e hx => ?_) ?_
 ·obtain ⟨r, rfl, h2⟩ := hx
  refine OpE.mono (OpV.e (evalOp_v Tryz.tOk rfl)) ?_ fun _ _ h => h
  rintro u w'' ⟨rfl, rfl⟩; exact ⟨rfl, .refl _ _⟩
 refine Asy.sat1 0 (fun u w' => IsSl w' 1 u (CV.list [.int R, .int key, .text b]).enc.length (bytesV (CV.list [.int R, .int key, .text b]).enc)) rfl rfl rfl rfl rfl rfl (fun u w' w'' _ e h => h.extE e) (fun w' x e hx => ?_) ?_
 ·refine OpE.mono (OpV.e (evalOp_v Tryz.tOk rfl)) ?_ fun _ _ h => h
  rintro u w'' ⟨rfl, rfl⟩; exact ⟨.refl _ _, hx⟩
 repeat (first | refine Asy.pureI Tryz.tOk rfl rfl rfl (by (rfl)) ?_)
 refine Asy.tail (by kernel_rfl) ?_
 intro w2 X2
 simp only [satsAll]
 intro x hx _ _ _ _ _ _ _ _ _ _
 repeat (first | refine RunL.pure Tryz.tOk rfl rfl rfl ?_ | refine ZzQ ?_ | refine ZzR ?_ | refine ZzN ?_)
 refine RunL.call rfl rfl rfl (rhash_ok ⟨#[115, 105, 103, 110]⟩ x _ w2 (by decide) hx he) ?_
 rintro _ w3 ⟨rfl, X3⟩
 repeat (first | refine RunL.pureI Tryz.tOk rfl rfl rfl (by (rfl)) ?_ | refine ZzN ?_)
 exact RunE.retFn Tryz.func97 (.tmp rfl .nil) ⟨rfl, (X1.trans X2).trans X3⟩
end Go.Sg
end
section
/- The walks of package signatoryref11: Verify. -/
set_option maxRecDepth 4000
namespace Go.Sg
open Go.Rn Go.NT Go.Sha Go.Cod Go.Proofs
attribute [local irreducible] Go.Rn.RunL Go.Rn.RunE Go.Rn.Asy Go.Rn.OpV Go.Rn.OpE Go.Rn.ExecE

set_option maxHeartbeats 2000000 in
theorem r11_verify_ok (key E S : Int) (v : Value) (b : List UInt8) (w : World) (hk : -9223372036854775808 ≤ key ∧ key < 9223372036854775808) (hE : -9223372036854775808 ≤ E ∧ E < 9223372036854775808) (hS : -9223372036854775808 ≤ S ∧ S < 9223372036854775808)
  (hv : IsSl w 1 v b.length (bytesV b)) (hb : b.length ≤ 800000) :
  Rets Tryz.prog 74 [.int .i64 key, v, .agg #[.int .i64 E, .int .i64 S]] w fun r w' => r = .bool (verS key b E S) ∧ Ext w w' := by
 refine RetsX.of (nt := 39) Tryz.func74 (by kernel_rfl) rfl rfl (by simp) (by simp only [argEnv]; rfl) ?_
 repeat (first | refine ZzQ ?_ | refine ZzR ?_)
 refine RunL.box rfl rfl rfl fun B5 w1 a1 => ?_
 have Z1 : Blk w1 B5 [.int .i64 E, .int .i64 S] 36 := a1.at_
 have X1 := a1.ext
 clear a1
 repeat (first | refine RunL.pureI Tryz.tOk rfl rfl rfl (by (rfl)) ?_ | refine RunL.pure Tryz.tOk rfl rfl rfl ?_ | refine ZzQ ?_ | refine ZzR ?_ | refine ZzN ?_)
 refine RunL.call rfl rfl rfl (r10_valid_ok key _) ?_
 rintro _ _ ⟨rfl, rfl⟩
 cases hvk : validS key with
 | false =>
  have hno : sigOk key E S = false := by unfold sigOk; rw [hvk, Bool.and_false]
  repeat (first | refine RunL.pure Tryz.tOk rfl rfl rfl ?_ | refine RunL.unwantedD rfl rfl ?_ | refine ZzN ?_)
  refine ZzT rfl rfl ?_
  repeat (first | refine RunL.pure Tryz.tOk rfl rfl rfl ?_ | refine ZzQ ?_ | refine ZzR ?_ | refine ZzN ?_)
  refine RunE.retFn Tryz.func74 (.tmp rfl .nil) ⟨?_, X1⟩
  simp [oneOr, verS, hno]
 | true =>
  by_cases h1 : 0 ≤ E ∧ E < 1073741789 ∧ 0 ≤ S ∧ S < 1073741789
  ·have hyes : sigOk key E S = true := by
    unfold sigOk; rw [hvk, decide_eq_true h1]; rfl
   have hver : verS key b E S = (E == chal (mulC (powC 4 S) (powC key (-E))) key b) := by unfold verS; rw [hyes]; rfl
   repeat (first | refine RunL.pureB Tryz.tOk _ rfl rfl rfl (by exact decide_eq_false (by omega)) ?_ | refine RunL.pure Tryz.tOk rfl rfl rfl ?_ | refine RunL.val rfl rfl rfl (OpV.load1 Tryz.tOk rfl rfl rfl (Blk.cell Z1 rfl)) ?_ | refine ZzN ?_)
   refine ZzF rfl rfl ?_
   repeat (first | refine ZzQ ?_ | refine ZzK ?_)
   refine RunE.draw (fun _ => False) mix ?_
   intro w2 X2
   have Z2 := Z1.ext X2 id
   repeat (first | refine Asy.pure Tryz.tOk rfl rfl rfl ?_)
   refine Asy.v rfl rfl rfl rfl (fun w' X' => OpV.load1 Tryz.tOk rfl rfl rfl (Blk.cell (Z2.ext X' id) rfl)) ?_
   repeat (first | refine Asy.pureI Tryz.tOk rfl rfl rfl (by (rfl)) ?_)
   refine Asy.v rfl rfl rfl rfl (fun w' X' => OpV.loadN (cs := [.int .i64 E, .int .i64 S]) Tryz.tOk rfl rfl rfl rfl (Z2.ext X' id).row) ?_
   have hmb := mulC_bd (powC 4 S) (powC key (-E))
   have hp := fun w => r11_point_ok key E S w (by omega)
   generalize mulC (powC 4 S) (powC key (-E)) = R at *
   refine Asy.val rfl rfl rfl rfl (fun _ _ => OpE.call rfl (hp _)) ?_
   repeat (first | refine Asy.pureI Tryz.tOk rfl rfl rfl (by (rfl)) ?_ | refine Asy.pure Tryz.tOk rfl rfl rfl ?_)
   refine Asy.val rfl rfl rfl rfl (fun _ X' => OpE.call rfl (r11_hash_ok R key v b _ (by omega) hk (hv.extE ((X1.trans X2).trans X')) hb)) ?_
   repeat (first | refine Asy.pure Tryz.tOk rfl rfl rfl ?_)
   refine Asy.tail (by kernel_rfl) ?_
   intro w3 X3
   simp only [satsAll]
   repeat (first | refine ZzN ?_)
   refine RunE.retFn Tryz.func74 (.tmp rfl .nil) ⟨?_, (X1.trans X2).trans X3⟩
   simp only [oneOr, hver]
  ·have hno : sigOk key E S = false := by unfold sigOk; rw [decide_eq_false h1]; rfl
   by_cases h2 : E < 0
   ·repeat (first | refine RunL.pureB Tryz.tOk _ rfl rfl rfl (by exact decide_eq_true h2) ?_ | refine RunL.pure Tryz.tOk rfl rfl rfl ?_ | refine RunL.unwantedD rfl rfl ?_ | refine RunL.val rfl rfl rfl (OpV.load1 Tryz.tOk rfl rfl rfl (Blk.cell Z1 rfl)) ?_ | refine ZzN ?_)
    refine ZzT rfl rfl ?_
    repeat (first | refine RunL.pure Tryz.tOk rfl rfl rfl ?_ | refine ZzQ ?_ | refine ZzR ?_ | refine ZzN ?_)
    refine RunE.retFn Tryz.func74 (.tmp rfl .nil) ⟨?_, X1⟩
    simp [oneOr, verS, hno]
   by_cases h3 : 1073741789 ≤ E
   ·repeat (first | refine RunL.pureB Tryz.tOk _ rfl rfl rfl (by exact decide_eq_false h2) ?_ | refine RunL.pureB Tryz.tOk _ rfl rfl rfl (by exact decide_eq_true h3) ?_ | refine RunL.pure Tryz.tOk rfl rfl rfl ?_ | refine RunL.unwantedD rfl rfl ?_ | refine RunL.val rfl rfl rfl (OpV.load1 Tryz.tOk rfl rfl rfl (Blk.cell Z1 rfl)) ?_ | refine ZzN ?_)
    refine ZzT rfl rfl ?_
    repeat (first | refine RunL.pure Tryz.tOk rfl rfl rfl ?_ | refine ZzQ ?_ | refine ZzR ?_ | refine ZzN ?_)
    refine RunE.retFn Tryz.func74 (.tmp rfl .nil) ⟨?_, X1⟩
    simp [oneOr, verS, hno]
   by_cases h4 : S < 0
   ·repeat (first | refine RunL.pureB Tryz.tOk _ rfl rfl rfl (by exact decide_eq_false h2) ?_ | refine RunL.pureB Tryz.tOk _ rfl rfl rfl (by exact decide_eq_false h3) ?_ | refine RunL.pureB Tryz.tOk _ rfl rfl rfl (by exact decide_eq_true h4) ?_ | refine RunL.pure Tryz.tOk rfl rfl rfl ?_ | refine RunL.unwantedD rfl rfl ?_ | refine RunL.val rfl rfl rfl (OpV.load1 Tryz.tOk rfl rfl rfl (Blk.cell Z1 rfl)) ?_ | refine ZzN ?_)
    refine ZzT rfl rfl ?_
    repeat (first | refine RunL.pure Tryz.tOk rfl rfl rfl ?_ | refine ZzQ ?_ | refine ZzR ?_ | refine ZzN ?_)
    refine RunE.retFn Tryz.func74 (.tmp rfl .nil) ⟨?_, X1⟩
    simp [oneOr, verS, hno]
   ·repeat (first | refine RunL.pureB Tryz.tOk _ rfl rfl rfl (by exact decide_eq_false h2) ?_ | refine RunL.pureB Tryz.tOk _ rfl rfl rfl (by exact decide_eq_false h3) ?_ | refine RunL.pureB Tryz.tOk _ rfl rfl rfl (by exact decide_eq_false h4) ?_ | refine RunL.pureB Tryz.tOk _ rfl rfl rfl (by exact decide_eq_true (by omega)) ?_ | refine RunL.pure Tryz.tOk rfl rfl rfl ?_ | refine RunL.val rfl rfl rfl (OpV.load1 Tryz.tOk rfl rfl rfl (Blk.cell Z1 rfl)) ?_ | refine ZzN ?_)
    refine ZzT rfl rfl ?_
    repeat (first | refine RunL.pure Tryz.tOk rfl rfl rfl ?_ | refine ZzQ ?_ | refine ZzR ?_ | refine ZzN ?_)
    refine RunE.retFn Tryz.func74 (.tmp rfl .nil) ⟨?_, X1⟩
    simp [oneOr, verS, hno]
end Go.Sg
end
section
/- Chapter 11: plain. -/
set_option maxRecDepth 4000
namespace Go.Sg
open Go.Rn Go.NT Go.Sha Go.Cod Go.Proofs

theorem powC_congr (a : Int) {m n : Int} (h : m % 1073741789 = n % 1073741789) : powC a m = powC a n := by unfold powC; rw [h]
theorem sigE_bd (x : Int) (b : List UInt8) : 0 ≤ sigE x b ∧ sigE x b < 1073741789 := by
 unfold sigE; split
 ·exact hashS_bd _ _
 ·decide
theorem sigS_bd (x : Int) (b : List UInt8) : 0 ≤ sigS x b ∧ sigS x b < 1073741789 := by
 unfold sigS; split
 ·exact ⟨Int.emod_nonneg _ (by decide), Int.emod_lt_of_pos _ (by decide)⟩
 ·decide
theorem ver_sign {x : Int} (b : List UInt8) (hx : inQ x = true) : verS (powC 4 x) b (sigE x b) (sigS x b) = true := by
 have hv := powC_valid v4 x
 have hE := sigE_bd x b
 have hS := sigS_bd x b
 have hok : sigOk (powC 4 x) (sigE x b) (sigS x b) = true := by unfold sigOk; rw [hv, decide_eq_true ⟨hE.1, hE.2, hS.1, hS.2⟩]; rfl
 have hEe : sigE x b = chal (powC 4 (noncN x b)) (powC 4 x) b := by unfold sigE; rw [hx, if_pos rfl]
 have hSe : sigS x b = (noncN x b + sigE x b * x % 1073741789) % 1073741789 := by unfold sigS; rw [hx, if_pos rfl]
 have hpt : mulC (powC 4 (sigS x b)) (powC (powC 4 x) (-sigE x b)) = powC 4 (noncN x b) := by
  rw [powC_mul v4, powC_add v4]
  refine powC_congr 4 ?_
  rw [hSe, Int.mul_neg, Int.mul_comm x]
  generalize sigE x b * x = y
  omega
 unfold verS
 rw [hok, Bool.true_and, hpt, ← hEe]
 exact beq_self_eq_true _
end Go.Sg
end
section
/- Deeds: for the laws, plain. -/
set_option maxRecDepth 4000
namespace Go.Dee
open Go.NT Go.Sg Go.Sha Go.Cod
def sameF (a b : Deed) : Bool := (a.person == b.person) && (a.no == b.no) && (a.at_ == b.at_) && (a.prev == b.prev) && (a.seen == b.seen) && (a.data == b.data)
theorem sameF_iff {a b : Deed} : sameF a b = true ↔ a.person = b.person ∧ a.no = b.no ∧ a.at_ = b.at_ ∧ a.prev = b.prev ∧ a.seen = b.seen ∧ a.data = b.data := by
 unfold sameF
 simp only [Bool.and_eq_true, beq_iff_eq, and_assoc]
theorem sameF_text {a b : Deed} : sameF a b = true ↔ textD a = textD b := by rw [sameF_iff, textD_inj]
theorem sameF_refl (a : Deed) : sameF a a = true := sameF_text.2 rfl
def sameD (a b : Deed) : Bool := sameF a b && (a.e == b.e && a.s == b.s)
theorem sameD_iff {a b : Deed} : sameD a b = true ↔ a = b := by
 unfold sameD
 simp only [Bool.and_eq_true, sameF_iff, beq_iff_eq]
 constructor
 ·rintro ⟨⟨h1, h2, h3, h4, h5, h6⟩, h7, h8⟩
  obtain ⟨p, n, t, q, s, d, e, x⟩ := a
  obtain ⟨p', n', t', q', s', d', e', x'⟩ := b
  simp only at h1 h2 h3 h4 h5 h6 h7 h8
  subst h1; subst h2; subst h3; subst h4; subst h5; subst h6; subst h7; subst h8
  rfl
 ·rintro rfl; exact ⟨⟨rfl, rfl, rfl, rfl, rfl, rfl⟩, rfl, rfl⟩
theorem make_good {x : Int} {d : Deed} (h : makeE x d = 0) : inQ x = true ∧ formedD d = true ∧ makeD x d = { d with e := sigE x (textD d), s := sigS x (textD d) } := by
 refine ⟨?_, ?_, if_pos h⟩
 ·unfold makeE at h
  split at h
  ·assumption
  ·cases h
 ·unfold makeE at h
  split at h
  ·split at h
   ·assumption
   ·cases h
  ·cases h
theorem make_fine {ks : List Int} {x : Int} {d : Deed} (h : makeE x d = 0) (hp : d.person < (ks.length : Int)) (hk : keyOf ks d.person = powC 4 x) : fineD ks (makeD x d) = true := by
 obtain ⟨h1, h2, h3⟩ := make_good h
 have hv := powC_valid v4 x
 have hb := validS_bd hv
 have hs := ver_sign (textD d) h1
 unfold fineD
 rw [h3]
 simp only [Bool.and_eq_true, decide_eq_true_eq, bne_iff_ne, ne_eq]
 refine ⟨⟨⟨h2, hp⟩, ?_⟩, ?_⟩
 ·rw [hk]; omega
 ·rw [hk]; exact hs
theorem fine_far {ks : List Int} {d : Deed} (hp : ¬ d.person < (ks.length : Int)) : fineD ks d = false := by
 unfold fineD
 rw [decide_eq_false hp]; simp
theorem nextD_snoc (l : List Deed) (y : Deed) (p : Int) : nextD (l ++ [y]) p = nextD l p + (if y.person = p then 1 else 0) := by
 unfold nextD
 rw [ofD_snoc]
 by_cases h : y.person = p
 ·rw [if_pos h, if_pos h, List.length_append]; simp
 ·rw [if_neg h, if_neg h, List.append_nil]; simp
theorem nextD_nonneg (l : List Deed) (p : Int) : 0 ≤ nextD l p := by unfold nextD; omega
theorem nextD_le (l : List Deed) (p : Int) : nextD l p ≤ (l.length : Int) := by
 unfold nextD ofD
 have := List.length_filter_le (fun y : Deed => decide (y.person = p)) l
 omega
theorem log_no {ks : List Int} : ∀ {l : List Deed}, logD ks l = true → ∀ y ∈ l, y.no < nextD l y.person := by
 intro l
 induction hl : l.length generalizing l with
 | zero =>
  intro _ y hy
  have : l = [] := List.length_eq_zero_iff.1 hl
  subst this; simp at hy
 | succ n ih =>
  intro h y hy
  rcases List.eq_nil_or_concat l with rfl | ⟨m, z, rfl⟩
  ·simp at hl
  rw [List.concat_eq_append] at *
  obtain ⟨h1, h2⟩ := logD_unsnoc h
  rw [nextD_snoc]
  rcases List.mem_append.1 hy with hy | hy
  ·have := ih (by simpa using hl) h1 y hy
   split <;> omega
  ·rw [List.mem_singleton] at hy
   subst hy
   have := (stepD_inv h2).2.1
   rw [if_pos rfl]; omega
theorem last_zero {l : List Deed} {p : Int} (h : nextD l p = 0) : lastD l p = zeroG := by
 have h0 : ofD l p = [] := by
  unfold nextD at h
  exact List.length_eq_zero_iff.1 (by omega)
 unfold lastD
 rw [h0]; rfl
theorem lastD_snoc (l : List Deed) (y : Deed) (p : Int) : lastD (l ++ [y]) p = if y.person = p then idD y else lastD l p := by
 unfold lastD
 rw [ofD_snoc]
 by_cases h : y.person = p
 ·rw [if_pos h, if_pos h, List.getLast?_append]; rfl
 ·rw [if_neg h, if_neg h, List.append_nil]
theorem stepD_of {ks : List Int} {pre : List Deed} {d : Deed} (h1 : fineD ks d = true) (h2 : d.no = nextD pre d.person) (h3 : d.prev = lastD pre d.person) (h4 : afterD pre d = true) (h5 : ∀ x ∈ d.seen, metD pre d.person x = true) : stepD ks pre d = true := by
 unfold stepD
 simp only [Bool.and_eq_true, beq_iff_eq, List.all_eq_true]
 exact ⟨⟨⟨⟨h1, h2⟩, h3⟩, h4⟩, h5⟩
end Go.Dee
end
