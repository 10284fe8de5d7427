/- Parts of this project that the claims share: DeeA, DeeB, Mer1, MerS, SigEq, Dee5, Dee6, Mer2, Flat, MapF. -/
import Derived.Test.YtpmpefkcmokoiaaGreatDoorMs06
import Derived.Test.YtpmpefkcmokoiaaGreatDoorMs05
import Derived.Test.YtpmpefkcmokoiaaGreatDoorMs02
import Derived.Laws.StructEq
import Derived.Test.YtpmpefkcmokoiaaGreatDoorMs03
set_option linter.unusedSimpArgs false
set_option linter.unusedVariables false
set_option linter.unusedSectionVars false
section
/- Deeds: Check, what stands at each round. -/
set_option maxRecDepth 4000
namespace Go.Proofs
open Go.Rn
def Tryz.T2 : Tab := [(90, ⟨.arr 64 32 true 32, 2048, 2048, List.replicate 2048 (.int .u8 0), true, false⟩)]
set_option maxRecDepth 100000 in
theorem Tryz.t2Ok : Tab.Ok Tryz.prog Tryz.T2 := Tab.ok_of (ts := [90]) (by kernel_rfl)
end Go.Proofs
namespace Go.Dee
open Go.Rn Go.RowKit Go.Rec Go.Sha Go.Sg
def lastL (pre : List Deed) : List Dg := (List.range 64).map fun p => lastD pre ((p : Nat) : Int)
def nextL (pre : List Deed) : List Int := (List.range 64).map fun p => nextD pre ((p : Nat) : Int)
theorem range_get {α : Type} (f : Nat → α) {n i : Nat} (h : i < n) : ((List.range n).map f)[i]? = some (f i) := by
 rw [List.getElem?_map, List.getElem?_range h]; rfl
theorem lastL_get {pre : List Deed} {p : Int} (h0 : 0 ≤ p) (h1 : p < 64) : (lastL pre)[p.toNat]? = some (lastD pre p) := by
 have := range_get (fun p : Nat => lastD pre (p : Int)) (show p.toNat < 64 by omega)
 have e : ((p.toNat : Nat) : Int) = p := by omega
 rw [e] at this; exact this
theorem nextL_get {pre : List Deed} {p : Int} (h0 : 0 ≤ p) (h1 : p < 64) : (nextL pre)[p.toNat]? = some (nextD pre p) := by
 have := range_get (fun p : Nat => nextD pre (p : Int)) (show p.toNat < 64 by omega)
 have e : ((p.toNat : Nat) : Int) = p := by omega
 rw [e] at this; exact this
theorem map_set {α : Type} {f g : Nat → α} {n j : Nat} {y : α} (hj : j < n) (hy : g j = y) (h : ∀ i, i ≠ j → g i = f i) : ((List.range n).map f).set j y = (List.range n).map g := by
 apply List.ext_getElem?
 intro i
 rw [List.getElem?_set]
 rcases Nat.lt_or_ge i n with hi | hi
 ·rw [range_get g hi]
  by_cases e : j = i
  ·subst e; simp [hj, hy]
  ·rw [if_neg e, range_get f hi, h i (Ne.symm e)]
 ·have e : j ≠ i := by omega
  rw [if_neg e]
  simp [hi]
theorem lastL_snoc {pre : List Deed} {d : Deed} (h0 : 0 ≤ d.person) (h1 : d.person < 64) : (lastL pre).set d.person.toNat (idD d) = lastL (pre ++ [d]) := by
 refine map_set (by omega) ?_ fun i hi => ?_
 ·have e : ((d.person.toNat : Nat) : Int) = d.person := by omega
  rw [e, lastD_snoc, if_pos rfl]
 ·rw [lastD_snoc, if_neg (by omega)]
theorem nextL_snoc {pre : List Deed} {d : Deed} (h0 : 0 ≤ d.person) (h1 : d.person < 64) : (nextL pre).set d.person.toNat (nextD pre d.person + 1) = nextL (pre ++ [d]) := by
 refine map_set (by omega) ?_ fun i hi => ?_
 ·have e : ((d.person.toNat : Nat) : Int) = d.person := by omega
  rw [e, nextD_snoc, if_pos rfl]
 ·rw [nextD_snoc, if_neg (by omega)]; omega
theorem lastL_len (pre : List Deed) : (lastL pre).length = 64 := by simp [lastL]
theorem nextL_len (pre : List Deed) : (nextL pre).length = 64 := by simp [nextL]
theorem lastL_nil : lastL [] = List.replicate 64 zeroG := by
 apply List.ext_getElem?
 intro i
 rcases Nat.lt_or_ge i 64 with h | h
 ·rw [List.getElem?_replicate, if_pos h]; exact range_get _ h
 ·rw [List.getElem?_eq_none (by rw [lastL_len]; exact h), List.getElem?_eq_none (by simpa using h)]
theorem nextL_nil : nextL [] = List.replicate 64 0 := by
 apply List.ext_getElem?
 intro i
 rcases Nat.lt_or_ge i 64 with h | h
 ·rw [List.getElem?_replicate, if_pos h]; exact range_get _ h
 ·rw [List.getElem?_eq_none (by rw [nextL_len]; exact h), List.getElem?_eq_none (by simpa using h)]
theorem digC_zero : digC zeroG = List.replicate 32 (.int .u8 0) := by
 rw [digC_eq]; rfl
theorem last_cells : flat digC (lastL []) = List.replicate 2048 (.int .u8 0) := by
 rw [lastL_nil, flat_rep digC_zero]
theorem next_cells : flat intC' (nextL []) = List.replicate 64 (.int .i64 0) := by
 rw [nextL_nil, flat_rep (enc := intC') (x := 0) (k := 1) (v := .int .i64 0) rfl]
end Go.Dee
namespace Go.Sg
open Go.Rn Go.Proofs Go.Dee Go.Rec Go.RowKit Go.Sha Go.Cod Go.NT
structure ChkSt (w cur : World) (base B4 R5 B6 B7 : Nat) (m : List (List UInt8 × Value)) (pre : List Deed) (Ds : List Nat) : Prop where
 X : Ext w cur
 Z4 : Blk cur B4 [.int .i64 0] 27
 Z6 : Blk cur B6 (flat digC (lastL pre)) 90
 Z7 : Blk cur B7 (flat intC' (nextL pre)) 91
 M : MDg cur R5 m
 B : ByOk cur base m pre
 D : ∀ D ∈ Ds, cur.heap[D]? = some (.deferred (some []))
 nd : Ds.Nodup
 ge : ∀ D ∈ Ds, base ≤ D
 sz : base ≤ cur.heap.size
theorem ChkSt.up {w cur cur' : World} {base B4 R5 B6 B7 : Nat} {m : List (List UInt8 × Value)} {pre : List Deed} {Ds : List Nat} (h : ChkSt w cur base B4 R5 B6 B7 m pre Ds) (e : Ext cur cur') : ChkSt w cur' base B4 R5 B6 B7 m pre Ds :=
 ⟨h.X.trans e, h.Z4.up e, h.Z6.up e, h.Z7.up e, h.M.up e, h.B.up e, fun D hD => obj_ext (h.D D hD) e id, h.nd, h.ge, Nat.le_trans h.sz e.size⟩
/-- The way out. -/
theorem ChkSt.out {P : Program} {w cur : World} {base : Nat} {Ds : List Nat} {c : Ctx} {n : Nat} {k : List Item} {env : Env} {g : FuncId} {fn : Func} {e : Int} {r : Int} (hX : Ext w cur) (hD : ∀ D ∈ Ds, cur.heap[D]? = some (.deferred (some []))) (hn : Ds.Nodup) (hge : ∀ D ∈ Ds, base ≤ D) (hb : w.heap.size ≤ base) (hf : P.funcs[g]? = some fn)
  (hr : ∀ w', ExtB (· ∈ Ds) cur w' → ResOk P w' env fn.results.toList [.int .i64 e]) (he : e = r) : RunE P c n (Ds.map markOf) (.code .ret :: k) (FnQ P g (fun v w' => v = .int .i64 r ∧ Ext w w') fun _ _ => False) env cur := by
 subst he
 refine RunE.retFnM Ds hf hD hn fun w' e' => ⟨_, hr w' e', rfl, hX.write e' ?_⟩
 intro k hk hlt
 have := hge k hk
 omega
end Go.Sg
end
section
/- Deeds: Check. -/
set_option maxRecDepth 4000
namespace Go.Mer
open Go.Dee
theorem befD_iff' {a b : Deed} : befD a b = true ↔ a.at_ < b.at_ ∨ (a.at_ = b.at_ ∧ (a.person < b.person ∨ (a.person = b.person ∧ a.no < b.no))) := by
 unfold befD
 split
 ·split
  ·rw [decide_eq_true_eq]; omega
  ·rw [decide_eq_true_eq]; omega
 ·rw [decide_eq_true_eq]; omega
end Go.Mer
namespace Go.Sg
open Go.Rn Go.Proofs Go.Dee Go.Rec Go.RowKit Go.Sha Go.Cod Go.NT
section
variable {P : Program} {w : World} {env : Env} {dst : Option Tmp} {ty : TypeId} {pos : String} {after : Array Edge} {guard : Option (Nat × Bool)}
theorem OpE.mapEntryDg {t kt et : TypeId} {x y : Operand} {r : Nat} {g : Dg} {m : List (List UInt8 × Value)} {z : Value} (ht : P.underlying t = some (.map kt et)) (hk : KeyOk P kt digV fun l => l.length = 32) (hz : (P.info? et).bind (·.zero) = some z)
  (hx : evO env x = some (.map (some r))) (hy : evO env y = some (.agg (digC g).toArray)) (hm : MDg w r m) :
  OpE P env w ⟨dst, .mapEntry t x y, ty, pos, after, guard⟩ (fun u w' => ∃ st : Nat, u = .tuple #[(getM g.1 m).getD z, .int .i64 (st : Int)] ∧ EntK digV (fun l => l.length = 32) w' r m g.1 st ∧ ExtB (· = r) w w' ∧ w'.heap.size = w.heap.size) fun _ _ => False := by
 rw [digV_eq] at hy
 exact OpE.mapEntry ht hk hz hx hy g.2 hm
theorem build_none {T : Tab} {t : TypeId} {m sz s b : Nat} {ag : Bool} {e : TypeId} {z : List Value} {a u : Bool} {env : Env} (ht : T.get t = some ⟨.arr m sz ag e, s, b, z, a, u⟩) : evalOp T env (.build t #[]) = some (.agg z.toArray) := by
 unfold evalOp
 simp only [ht, evParts, fillL, force_eq]
end
attribute [local irreducible] Go.Rn.RetsX Go.Rn.RunLN Go.Rn.AsyN Go.Rn.RunL Go.Rn.RunE Go.Rn.Asy Go.Rn.OpV Go.Rn.OpE Go.Rn.ExecE
def WfX (w : World) (x : Dr) : Prop := WfD x.d ∧ x.d.seen.length < 9223372036854775808 ∧ x.d.data.length < 9223372036854775808 ∧ HoldR w x
set_option maxRecDepth 4000 in
set_option maxHeartbeats 8000000 in
theorem dcheck_ok (ks : List Int) (kv : Value) (l : List Dr) (lv : Value) (w : World) (hk : LIn w kv ks) (hkl : ks.length < 9223372036854775808) (hki : KsI ks) (hv : LDr w lv l) (hl : l.length < 9223372036854775808) (hd : ∀ x ∈ l, WfX w x) (hS : Row w 0 0 (vals init8.l)) (hkT : Row w 1 0 (vals kTab)) :
  Rets Tryz.prog 22 [kv, lv] w fun r w' => r = .int .i64 (chkE ks (l.map Dr.d)) ∧ Ext w w' := by
 have c1 := fun w h => dkeys_ok ks kv w h hkl
 cases hkd : keysD ks with
 | false =>
  rw [hkd] at c1
  have hr : chkE ks (l.map Dr.d) = 1 := by unfold chkE; rw [hkd]; rfl
  rw [hr]
  refine RetsX.of (nt := 122) Tryz.func22 (by kernel_rfl) rfl rfl (by simp) (by simp only [argEnv]; rfl) ?_
  have X := ExtB.refl (fun _ => False) w
  repeat' (first | refine ZzQ ?_ | refine ZzR ?_)
  refine RunL.alloc Tryz.tOk rfl rfl rfl fun B4 w4_ a_ => ?_
  have Z4 : Blk w4_ B4 ([.int .i64 0]) 27 := a_.at_
  have gB4 := a_.ge X
  replace X := X.trans a_.ext
  clear a_
  repeat' (first | refine ZzA ?_ | refine RunL.ev Tryz.tOk rfl rfl rfl ?_ | refine ZzQ ?_ | refine ZzR ?_ | refine ZzN ?_)
  refine RunL.call rfl rfl rfl (c1 _ (hk.up X)) ?_
  rintro _ _ ⟨rfl, Xa_⟩
  replace Z4 := Z4.up Xa_
  replace X := X.trans Xa_
  clear Xa_
  repeat' (first | with_reducible refine ZzP rfl ?_ | refine RunL.ev Tryz.tOk rfl rfl rfl ?_ | refine ZzT rfl rfl ?_ | refine ZzQ ?_ | refine ZzR ?_ | refine ZzN ?_)
  refine RunL.store Tryz.tOk rfl rfl rfl rfl rfl Z4 rfl rfl fun w_ t_ => ?_
  replace X := X.own t_.ext gB4
  replace Z4 : Blk w_ B4 ([.int .i64 1]) 27 := t_.at_
  clear t_
  repeat' (first | refine ZzN ?_)
  exact RunE.retFn Tryz.func22 (.cell rfl (Loads.scalar Tryz.tOk rfl rfl (Z4.cell rfl)) .nil) ⟨rfl, X⟩
 | true =>
 rw [hkd] at c1
 by_cases hlm : l.length ≤ 4096
 rotate_left
 ·have hr : chkE ks (l.map Dr.d) = 2 := by
   unfold chkE; rw [hkd, if_pos rfl, List.length_map, if_pos (by omega)]
  rw [hr]
  refine RetsX.of (nt := 122) Tryz.func22 (by kernel_rfl) rfl rfl (by simp) (by simp only [argEnv]; rfl) ?_
  have X := ExtB.refl (fun _ => False) w
  repeat' (first | refine ZzQ ?_ | refine ZzR ?_)
  refine RunL.alloc Tryz.tOk rfl rfl rfl fun B4 w4_ a_ => ?_
  have Z4 : Blk w4_ B4 ([.int .i64 0]) 27 := a_.at_
  have gB4 := a_.ge X
  replace X := X.trans a_.ext
  clear a_
  repeat' (first | refine ZzA ?_ | refine RunL.ev Tryz.tOk rfl rfl rfl ?_ | refine ZzQ ?_ | refine ZzR ?_ | refine ZzN ?_)
  refine RunL.call rfl rfl rfl (c1 _ (hk.up X)) ?_
  rintro _ _ ⟨rfl, Xa_⟩
  replace Z4 := Z4.up Xa_
  replace X := X.trans Xa_
  clear Xa_
  repeat' (first | with_reducible refine ZzG rfl ?_ | (with_reducible refine RunLN.decT ?_ ?_; focus omega) | (with_reducible refine RunLN.chk ?_; refine RunLN.int (by (rfl)) ?_) | refine ZzA ?_ | refine RunL.ev Tryz.tOk rfl rfl rfl ?_ | refine RunL.evV rfl rfl rfl (OpV.lenSl Tryz.tOk rfl rfl hv) ?_ | refine ZzT rfl rfl ?_ | refine ZzF rfl rfl ?_ | refine ZzQ ?_ | refine ZzR ?_ | refine ZzN ?_ | refine ZzK ?_)
  refine RunL.store Tryz.tOk rfl rfl rfl rfl rfl Z4 rfl rfl fun w_ t_ => ?_
  replace X := X.own t_.ext gB4
  replace Z4 : Blk w_ B4 ([.int .i64 2]) 27 := t_.at_
  clear t_
  repeat' (first | refine ZzN ?_)
  exact RunE.retFn Tryz.func22 (.cell rfl (Loads.scalar Tryz.tOk rfl rfl (Z4.cell rfl)) .nil) ⟨rfl, X⟩
 have hr : ∀ lg, logD ks (l.map Dr.d) = lg → chkE ks (l.map Dr.d) = if lg then 0 else 490 := fun lg h => by
  unfold chkE; rw [hkd, if_pos rfl, List.length_map, if_neg (by omega), h]
 refine RetsX.of (nt := 122) Tryz.func22 (by kernel_rfl) rfl rfl (by simp) (by simp only [argEnv]; rfl) ?_
 have X := ExtB.refl (fun _ => False) w
 repeat' (first | refine ZzQ ?_ | refine ZzR ?_)
 refine RunL.alloc Tryz.tOk rfl rfl rfl fun B4 w4_ a_ => ?_
 have Z4 : Blk w4_ B4 ([.int .i64 0]) 27 := a_.at_
 have gB4 := a_.ge X
 replace X := X.trans a_.ext
 clear a_
 repeat' (first | refine ZzA ?_ | refine RunL.ev Tryz.tOk rfl rfl rfl ?_ | refine ZzQ ?_ | refine ZzR ?_ | refine ZzN ?_)
 refine RunL.call rfl rfl rfl (c1 _ (hk.up X)) ?_
 rintro _ _ ⟨rfl, Xa_⟩
 replace Z4 := Z4.up Xa_
 replace X := X.trans Xa_
 clear Xa_
 repeat' (first | with_reducible refine ZzG rfl ?_ | (with_reducible refine RunLN.decF ?_ ?_; focus omega) | (with_reducible refine RunLN.chk ?_; refine RunLN.int (by (rfl)) ?_) | refine ZzA ?_ | refine RunL.ev Tryz.tOk rfl rfl rfl ?_ | refine RunL.evV rfl rfl rfl (OpV.lenSl Tryz.tOk rfl rfl hv) ?_ | refine ZzF rfl rfl ?_ | refine ZzQ ?_ | refine ZzR ?_ | refine ZzN ?_ | refine ZzK ?_)
 refine RunL.ex rfl rfl rfl (OpE.makeMap digV fun l => l.length = 32) ?_
 rintro _ w5 ⟨R5, rfl, a5, M5⟩
 have gR5 : w.heap.size ≤ R5 := a5.ge X
 have l45 : B4 < R5 := by have := Z4.lt; have := a5.eq; omega
 replace Z4 := Z4.up a5.ext
 replace X := X.trans a5.ext
 clear a5 c1
 repeat' (first | refine ZzA ?_ | refine RunL.ev Tryz.tOk rfl rfl rfl ?_ | refine ZzQ ?_ | refine ZzR ?_ | refine ZzN ?_)
 refine RunL.ev Tryz.t2Ok rfl rfl (build_none rfl) ?_
 refine ZzA ?_
 refine RunL.alloc Tryz.t2Ok rfl rfl rfl fun B6 w6a aa_ => ?_
 have gB6 := aa_.ge X
 refine RunL.storeW (vs := List.replicate 2048 (.int .u8 0)) Tryz.t2Ok rfl rfl rfl rfl (by rw [List.length_replicate]) aa_.at_ rfl (by rw [List.all_replicate]; rfl) fun w6 tb_ => ?_
 have Xa_ : Ext w5 w6 := aa_.ext.write tb_.ext (by intro i_ hi_ hlt_; have := aa_.eq; omega)
 have l56 : R5 < B6 := by have := M5.lt; have := aa_.eq; omega
 have Z6 : Blk w6 B6 (flat digC (lastL [])) 90 := by rw [last_cells]; exact tb_.at_
 replace Z4 := Z4.up Xa_
 replace M5 := M5.up Xa_
 replace X := X.trans Xa_
 clear Xa_ aa_ tb_
 repeat' (first | refine ZzA ?_ | refine RunL.ev Tryz.tOk rfl rfl rfl ?_ | refine ZzQ ?_ | refine ZzR ?_ | refine ZzN ?_)
 refine RunL.alloc Tryz.tOk rfl rfl rfl fun B7 w7a aa_ => ?_
 have gB7 := aa_.ge X
 refine RunL.storeW (vs := List.replicate 64 (.int .i64 0)) Tryz.tOk rfl rfl rfl rfl (by rw [List.length_replicate]) aa_.at_ rfl (by rw [List.all_replicate]; rfl) fun w7 tb_ => ?_
 have Xa_ : Ext w6 w7 := aa_.ext.write tb_.ext (by intro i_ hi_ hlt_; have := aa_.eq; omega)
 have l67 : B6 < B7 := by have := Z6.lt; have := aa_.eq; omega
 have Z7 : Blk w7 B7 (flat intC' (nextL [])) 91 := by rw [next_cells]; exact tb_.at_
 replace Z4 := Z4.up Xa_
 replace M5 := M5.up Xa_
 replace Z6 := Z6.up Xa_
 replace X := X.trans Xa_
 clear Xa_ aa_ tb_
 have hbase := X.size
 have b7 := Z7.lt
 have g4 := gB4
 have n46 : B4 ≠ B6 := by omega
 have n47 : B4 ≠ B7 := by omega
 have n67 : B6 ≠ B7 := by omega
 have n4 : R5 ≠ B4 := by omega
 have n6 : R5 ≠ B6 := by omega
 have n7 : R5 ≠ B7 := by omega
 have H : ChkSt w w7 w7.heap.size B4 R5 B6 B7 [] [] [] := ⟨X, Z4, Z6, Z7, M5, ByOk.nil _ _, fun D h => by simp at h, List.nodup_nil, fun D h => by simp at h, Nat.le_refl _⟩
 clear X Z4 Z6 Z7 M5
 generalize w7.heap.size = base at *
 repeat' (first | (with_reducible refine RunLN.chk ?_; refine RunLN.int (by (rfl)) ?_) | refine ZzA ?_ | refine RunL.ev Tryz.tOk rfl rfl rfl ?_ | refine RunL.evV rfl rfl rfl (OpV.lenSl Tryz.tOk rfl rfl hv) ?_ | refine ZzQ ?_ | refine ZzR ?_ | refine ZzN ?_ | refine ZzB ?_)
 refine RunE.loopD (ι := Nat × List (List UInt8 × Value) × List Nat) (fun s => [(0, kv), (1, lv), (4, .pointer (some ⟨B4, 0, none⟩)), (5, .map (some R5)), (6, .pointer (some ⟨B6, 0, none⟩)), (7, .pointer (some ⟨B7, 0, none⟩)), (23, lv), (24, .int .i64 (l.length : Int)), (25, .int .i64 (s.1 : Int))]) (fun s => s.2.2.map markOf)
  (fun s w' => s.1 ≤ l.length ∧ logD ks ((l.take s.1).map Dr.d) = true ∧ ChkSt w w' base B4 R5 B6 B7 s.2.1 ((l.take s.1).map Dr.d) s.2.2) (fun s => l.length - s.1) (0, [], []) (by repeat (first | exact Sub.nil _ | refine Sub.cons rfl ?_)) rfl ⟨Nat.zero_le _, rfl, H⟩ ?_
 clear H
 rintro ⟨i, m, Ds⟩ w3 ⟨hi, hlog, H⟩ again
 simp only at hi hlog H again ⊢
 by_cases hlt : i < l.length
 rotate_left
 ·obtain rfl : i = l.length := by omega
  rw [List.take_length] at hlog
  clear again
  have hres := hr true hlog
  repeat' (first | (with_reducible refine RunLN.decF ?_ ?_; focus omega) | refine RunL.ev Tryz.tOk rfl rfl rfl ?_ | refine ZzF rfl rfl ?_ | refine ZzQ ?_ | refine ZzR ?_ | refine ZzN ?_ | refine RunE.exit rfl ?_)
  refine RunL.store Tryz.tOk rfl rfl rfl rfl rfl H.Z4 rfl rfl fun u5 t5 => ?_
  have Z4' : Blk u5 B4 [.int .i64 0] 27 := t5.at_
  have hD5 : ∀ D ∈ Ds, u5.heap[D]? = some (.deferred (some [])) := fun D hD => obj_ext (H.D D hD) t5.ext (by have := H.ge D hD; omega)
  have X5 : Ext w u5 := H.X.own t5.ext g4
  repeat' (first | refine ZzN ?_)
  exact ChkSt.out (e := 0) X5 hD5 H.nd H.ge hbase Tryz.func22 (fun w' e => .cell rfl (Loads.scalar Tryz.tOk rfl rfl ((Z4'.ext e (fun h => by have := H.ge B4 h; omega)).cell rfl)) .nil) hres.symm
 ·obtain ⟨b1, o1, cc, rfl, hr1, -⟩ := isL_held hv hlt
  obtain ⟨x, hx⟩ : ∃ x, l[i]? = some x := ⟨_, List.getElem?_eq_getElem hlt⟩
  have hrx := flat_row encR hr1 hx
  obtain ⟨hwf, hls, hld, hhx⟩ := hd x (List.mem_of_getElem? hx)
  have hpx : (l.map Dr.d)[i]? = some x.d := by rw [List.getElem?_map, hx]; rfl
  have etake : (l.take (i + 1)).map Dr.d = (l.take i).map Dr.d ++ [x.d] := by rw [List.take_add_one, hx, List.map_append]; rfl
  have hbad : stepD ks ((l.take i).map Dr.d) x.d = false → chkE ks (l.map Dr.d) = 490 := fun h => by
   rw [hr false (logD_no hpx (by rw [← List.map_take]; exact h))]; rfl
  have hgood : stepD ks ((l.take i).map Dr.d) x.d = true → logD ks ((l.take (i + 1)).map Dr.d) = true := fun h => by rw [etake]; exact logD_snoc hlog h
  have hlast : ∀ j, i = j + 1 → ∃ y : Dr, l[j]? = some y ∧ ((l.take i).map Dr.d).getLast? = some y.d := fun j hj => by
   obtain ⟨y, hy⟩ : ∃ y, l[j]? = some y := ⟨_, List.getElem?_eq_getElem (by omega)⟩
   refine ⟨y, hy, ?_⟩
   rw [hj, List.take_add_one, hy, List.map_append]
   simp
  have hpos : ∀ y ∈ (l.take i).map Dr.d, 0 ≤ y.person := fun y hy => (formedD_inv (fineD_inv (logD_fine hlog y hy)).1).1.1
  have hplen : ((l.take i).map Dr.d).length ≤ 4096 := by simp; omega
  have hafter0 : i = 0 → afterD ((l.take i).map Dr.d) x.d = true := fun h => by subst h; rfl
  have next : ∀ m' Ds' w', _ → _ → _ := fun m' Ds' w' a b => again (i + 1, m', Ds') w' (by simp only; omega) ⟨by simp only; omega, a, b⟩
  simp only [etake] at next hgood
  clear again
  generalize (l.take i).map Dr.d = pre at *
  clear hlog hr hpx etake
  have hfs := fun w h h1 h2 h3 h4 => dfine_ok ks kv x.d x.u x.v w h hkl hki hwf h1 h2 hls hld h3 h4
  replace hrx := hrx.up H.X
  repeat' (first | (with_reducible refine RunLN.decT ?_ ?_; focus omega) | (with_reducible refine RunLN.chk ?_; refine RunLN.int (by (rfl)) ?_) | refine ZzA ?_ | refine RunL.ev Tryz.tOk rfl rfl rfl ?_ | refine RunL.evV rfl rfl rfl (OpV.loadN Tryz.tOk rfl rfl rfl rfl hrx) ?_ | refine RunL.evV rfl rfl rfl (OpV.indexS Tryz.tOk _ rfl rfl rfl rfl (by omega)) ?_ | refine ZzT rfl rfl ?_ | refine ZzQ ?_ | refine ZzR ?_ | refine ZzN ?_ | refine ZzB ?_ | refine ZzK ?_)
  refine RunL.alloc Tryz.tOk rfl rfl rfl fun B9 wa_ aa_ => ?_
  have g9 := aa_.ge H.X
  have e9 := aa_.eq
  repeat' (first | (with_reducible refine RunLN.chk ?_; refine RunLN.int (by (rfl)) ?_) | refine RunL.ev Tryz.tOk rfl rfl rfl ?_)
  refine RunL.storeW (vs := dCells x.d x.u x.v) Tryz.tOk rfl rfl rfl rfl rfl aa_.at_ rfl rfl fun w9 tb_ => ?_
  have Xa_ : Ext w3 w9 := aa_.ext.write tb_.ext (by intro i_ hi_ hlt_; omega)
  have Z9 : Blk w9 B9 (dCells x.d x.u x.v) 38 := tb_.at_
  have l9 : base ≤ B9 := by have := H.sz; omega
  replace H := H.up Xa_
  clear Xa_ aa_ tb_ hrx
  have X := ExtB.refl (fun _ => False) w9
  cases hf : fineD ks x.d with
  | false =>
   simp only [hf] at hfs
   have hstep : stepD ks pre x.d = false := by unfold stepD; rw [hf]; simp
   repeat' (first | refine ZzQ ?_ | refine ZzN ?_)
   refine RunE.draw (fun _ => False) mix ?_
   intro wd_ Xd_
   repeat' (first | with_reducible refine AsyN.boolT rfl ?_ | with_reducible refine AsyN.boolF rfl ?_ | refine AsyN.any ?_ | refine Asy.ev Tryz.tOk rfl rfl rfl ?_ | refine Asy.unwantedD rfl rfl rfl ?_ | refine Asy.evV rfl rfl rfl rfl (fun _ X_ => OpV.loadN Tryz.tOk rfl rfl rfl rfl (Blk.row (Z9.up (Xd_.trans X_)))) ?_ | refine Asy.callN rfl rfl rfl (fun _ X_ => (hfs _ (hk.up (H.X.trans (Xd_.trans X_))) (hhx.seen.up (H.X.trans (Xd_.trans X_))) (hhx.data.up (H.X.trans (Xd_.trans X_))) (hS.up (H.X.trans (Xd_.trans X_))) (hkT.up (H.X.trans (Xd_.trans X_))))) ?_)
   refine Asy.end_ (by kernel_rfl) ?_
   intro we_ Xe_
   replace H := H.up (Xd_.trans Xe_)
   clear Xd_ Xe_
   repeat' (first | refine ZzT rfl rfl ?_ | refine ZzQ ?_ | refine ZzR ?_ | refine ZzN ?_)
   refine RunL.store Tryz.tOk rfl rfl rfl rfl rfl H.Z4 rfl rfl fun u5 t5 => ?_
   have Z4' : Blk u5 B4 [.int .i64 490] 27 := t5.at_
   have hD5 : ∀ D ∈ Ds, u5.heap[D]? = some (.deferred (some [])) := fun D hD => obj_ext (H.D D hD) t5.ext (by have := H.ge D hD; omega)
   have X5 : Ext w u5 := H.X.own t5.ext g4
   repeat' (first | refine ZzN ?_)
   exact ChkSt.out (e := 490) X5 hD5 H.nd H.ge hbase Tryz.func22 (fun w' e => .cell rfl (Loads.scalar Tryz.tOk rfl rfl ((Z4'.ext e (fun h => by have := H.ge B4 h; omega)).cell rfl)) .nil) (hbad hstep).symm
  | true =>
  simp only [hf] at hfs
  obtain ⟨⟨p0, p1, -⟩, -⟩ := formedD_inv (fineD_inv hf).1
  have hn7 := flat_row encIn H.Z7.row (nextL_get (pre := pre) p0 p1)
  have hn6 := flat_row encG H.Z6.row (lastL_get (pre := pre) p0 p1)
  have hnp : x.d.person.toNat < 64 := by omega
  by_cases hno : x.d.no = nextD pre x.d.person
  rotate_left
  ·have hstep : stepD ks pre x.d = false := by
    unfold stepD
    rw [beq_eq_false_iff_ne.2 hno]; simp
   generalize nextD pre x.d.person = nx at hn7 hno
   repeat' (first | refine ZzQ ?_ | refine ZzN ?_)
   refine RunE.draw (fun _ => False) mix ?_
   intro wd_ Xd_
   repeat' (first | with_reducible refine AsyN.boolT rfl ?_ | with_reducible refine AsyN.boolF rfl ?_ | (with_reducible refine AsyN.neT ?_ ?_; focus omega) | (with_reducible refine AsyN.chk ?_; refine AsyN.int (by (rfl)) ?_) | refine AsyN.any ?_ | refine Asy.ev Tryz.tOk rfl rfl rfl ?_ | refine Asy.unwantedD rfl rfl rfl ?_ | refine Asy.evV rfl rfl rfl rfl (fun _ X_ => OpV.loadN Tryz.tOk rfl rfl rfl rfl (Blk.row (Z9.up (Xd_.trans X_)))) ?_ | refine Asy.evV rfl rfl rfl rfl (fun _ X_ => OpV.load1 Tryz.tOk rfl rfl rfl (Blk.cell (Z9.up (Xd_.trans X_)) rfl)) ?_ | refine Asy.evV rfl rfl rfl rfl (fun _ X_ => (OpV.indexA Tryz.tOk x.d.person.toNat rfl rfl rfl (by omega) hnp)) ?_ | refine Asy.evV rfl rfl rfl rfl (fun _ X_ => OpV.load1 Tryz.tOk rfl rfl rfl ((hn7.up (Xd_.trans X_)) 0 _ rfl)) ?_ | refine Asy.callN rfl rfl rfl (fun _ X_ => (hfs _ (hk.up (H.X.trans (Xd_.trans X_))) (hhx.seen.up (H.X.trans (Xd_.trans X_))) (hhx.data.up (H.X.trans (Xd_.trans X_))) (hS.up (H.X.trans (Xd_.trans X_))) (hkT.up (H.X.trans (Xd_.trans X_))))) ?_)
   refine Asy.end_ (by kernel_rfl) ?_
   intro we_ Xe_
   replace H := H.up (Xd_.trans Xe_)
   clear Xd_ Xe_
   repeat' (first | refine ZzT rfl rfl ?_ | refine ZzQ ?_ | refine ZzR ?_ | refine ZzN ?_)
   refine RunL.store Tryz.tOk rfl rfl rfl rfl rfl H.Z4 rfl rfl fun u5 t5 => ?_
   have Z4' : Blk u5 B4 [.int .i64 490] 27 := t5.at_
   have hD5 : ∀ D ∈ Ds, u5.heap[D]? = some (.deferred (some [])) := fun D hD => obj_ext (H.D D hD) t5.ext (by have := H.ge D hD; omega)
   have X5 : Ext w u5 := H.X.own t5.ext g4
   repeat' (first | refine ZzN ?_)
   exact ChkSt.out (e := 490) X5 hD5 H.nd H.ge hbase Tryz.func22 (fun w' e => .cell rfl (Loads.scalar Tryz.tOk rfl rfl ((Z4'.ext e (fun h => by have := H.ge B4 h; omega)).cell rfl)) .nil) (hbad hstep).symm
  by_cases hpv : x.d.prev = lastD pre x.d.person
  rotate_left
  ·have hstep : stepD ks pre x.d = false := by
    unfold stepD
    rw [beq_eq_false_iff_ne.2 hpv]; simp
   have hq : (!(x.d.prev == lastD pre x.d.person)) = true := by rw [beq_eq_false_iff_ne.2 hpv]; rfl
   rw [← hno] at hn7
   generalize lastD pre x.d.person = ls at hn6 hpv hq
   clear hno
   repeat' (first | refine ZzQ ?_ | refine ZzN ?_)
   refine RunE.draw (fun _ => False) mix ?_
   intro wd_ Xd_
   repeat' (first | with_reducible refine AsyN.boolT rfl ?_ | with_reducible refine AsyN.boolF rfl ?_ | refine AsyN.boolT (by assumption) ?_ | with_reducible refine AsyN.neF rfl ?_ | (with_reducible refine AsyN.chk ?_; refine AsyN.int (by (rfl)) ?_) | refine AsyN.any ?_ | refine Asy.ev Tryz.tOk rfl rfl rfl ?_ | refine Asy.evV rfl rfl rfl rfl (fun _ X_ => OpV.loadN Tryz.tOk rfl rfl rfl rfl (Blk.row (Z9.up (Xd_.trans X_)))) ?_ | refine Asy.evV rfl rfl rfl rfl (fun _ X_ => OpV.load1 Tryz.tOk rfl rfl rfl (Blk.cell (Z9.up (Xd_.trans X_)) rfl)) ?_ | refine Asy.evV rfl rfl rfl rfl (fun _ X_ => OpV.loadN Tryz.tOk rfl rfl rfl rfl ((row_prev (Blk.row Z9)).up (Xd_.trans X_))) ?_ | refine Asy.evV rfl rfl rfl rfl (fun _ X_ => (OpV.indexA Tryz.tOk x.d.person.toNat rfl rfl rfl (by omega) hnp)) ?_ | refine Asy.evV rfl rfl rfl rfl (fun _ X_ => (OpV.indexA Tryz.t2Ok x.d.person.toNat rfl rfl rfl (by omega) hnp)) ?_ | refine Asy.evV rfl rfl rfl rfl (fun _ X_ => OpV.load1 Tryz.tOk rfl rfl rfl ((hn7.up (Xd_.trans X_)) 0 _ rfl)) ?_ | refine Asy.evV rfl rfl rfl rfl (fun _ X_ => OpV.loadN Tryz.tOk rfl rfl rfl rfl (hn6.up (Xd_.trans X_))) ?_ | refine Asy.evV rfl rfl rfl rfl (fun _ X_ => (OpV.neDg (a := x.d.prev) (b := ls) bytesArr rfl rfl)) ?_ | refine Asy.callN rfl rfl rfl (fun _ X_ => (hfs _ (hk.up (H.X.trans (Xd_.trans X_))) (hhx.seen.up (H.X.trans (Xd_.trans X_))) (hhx.data.up (H.X.trans (Xd_.trans X_))) (hS.up (H.X.trans (Xd_.trans X_))) (hkT.up (H.X.trans (Xd_.trans X_))))) ?_)
   refine Asy.end_ (by kernel_rfl) ?_
   intro we_ Xe_
   replace H := H.up (Xd_.trans Xe_)
   clear Xd_ Xe_
   repeat' (first | refine ZzT rfl rfl ?_ | refine ZzQ ?_ | refine ZzR ?_ | refine ZzN ?_)
   refine RunL.store Tryz.tOk rfl rfl rfl rfl rfl H.Z4 rfl rfl fun u5 t5 => ?_
   have Z4' : Blk u5 B4 [.int .i64 490] 27 := t5.at_
   have hD5 : ∀ D ∈ Ds, u5.heap[D]? = some (.deferred (some [])) := fun D hD => obj_ext (H.D D hD) t5.ext (by have := H.ge D hD; omega)
   have X5 : Ext w u5 := H.X.own t5.ext g4
   repeat' (first | refine ZzN ?_)
   exact ChkSt.out (e := 490) X5 hD5 H.nd H.ge hbase Tryz.func22 (fun w' e => .cell rfl (Loads.scalar Tryz.tOk rfl rfl ((Z4'.ext e (fun h => by have := H.ge B4 h; omega)).cell rfl)) .nil) (hbad hstep).symm
  have hq : (!(x.d.prev == lastD pre x.d.person)) = false := by rw [beq_iff_eq.2 hpv]; rfl
  have hn7' := hn7
  rw [← hno] at hn7'
  have hn6' := hn6
  generalize lastD pre x.d.person = ls at hn6' hq
  repeat' (first | refine ZzQ ?_ | refine ZzN ?_)
  refine RunE.draw (fun _ => False) mix ?_
  intro wd_ Xd_
  repeat' (first | with_reducible refine AsyN.boolT rfl ?_ | with_reducible refine AsyN.boolF rfl ?_ | refine AsyN.boolF (by assumption) ?_ | with_reducible refine AsyN.neF rfl ?_ | (with_reducible refine AsyN.chk ?_; refine AsyN.int (by (rfl)) ?_) | refine AsyN.any ?_ | refine Asy.ev Tryz.tOk rfl rfl rfl ?_ | refine Asy.evV rfl rfl rfl rfl (fun _ X_ => OpV.loadN Tryz.tOk rfl rfl rfl rfl (Blk.row (Z9.up (Xd_.trans X_)))) ?_ | refine Asy.evV rfl rfl rfl rfl (fun _ X_ => OpV.load1 Tryz.tOk rfl rfl rfl (Blk.cell (Z9.up (Xd_.trans X_)) rfl)) ?_ | refine Asy.evV rfl rfl rfl rfl (fun _ X_ => OpV.loadN Tryz.tOk rfl rfl rfl rfl ((row_prev (Blk.row Z9)).up (Xd_.trans X_))) ?_ | refine Asy.evV rfl rfl rfl rfl (fun _ X_ => (OpV.indexA Tryz.tOk x.d.person.toNat rfl rfl rfl (by omega) hnp)) ?_ | refine Asy.evV rfl rfl rfl rfl (fun _ X_ => (OpV.indexA Tryz.t2Ok x.d.person.toNat rfl rfl rfl (by omega) hnp)) ?_ | refine Asy.evV rfl rfl rfl rfl (fun _ X_ => OpV.load1 Tryz.tOk rfl rfl rfl ((hn7'.up (Xd_.trans X_)) 0 _ rfl)) ?_ | refine Asy.evV rfl rfl rfl rfl (fun _ X_ => OpV.loadN Tryz.tOk rfl rfl rfl rfl (hn6'.up (Xd_.trans X_))) ?_ | refine Asy.evV rfl rfl rfl rfl (fun _ X_ => (OpV.neDg (a := x.d.prev) (b := ls) bytesArr rfl rfl)) ?_ | refine Asy.callN rfl rfl rfl (fun _ X_ => (hfs _ (hk.up (H.X.trans (Xd_.trans X_))) (hhx.seen.up (H.X.trans (Xd_.trans X_))) (hhx.data.up (H.X.trans (Xd_.trans X_))) (hS.up (H.X.trans (Xd_.trans X_))) (hkT.up (H.X.trans (Xd_.trans X_))))) ?_)
  refine Asy.end_ (by kernel_rfl) ?_
  intro we_ Xe_
  replace H := H.up (Xd_.trans Xe_)
  replace Z9 := Z9.up (Xd_.trans Xe_)
  clear Xd_ Xe_ hn7' hn6' hn7 hn6 hq hfs X
  have X := ExtB.refl (fun _ => False) we_
  repeat' (first | refine ZzN ?_)
  refine ZzF rfl rfl ?_
  repeat' (first | (with_reducible refine RunLN.chk ?_; refine RunLN.int (by (rfl)) ?_) | refine ZzA ?_ | refine RunL.ev Tryz.tOk rfl rfl rfl ?_ | refine ZzQ ?_ | refine ZzR ?_ | refine ZzN ?_ | refine ZzK ?_)
  refine RunE.cut (ι := Unit) (fun _ => [(0, kv), (1, .slice (some ⟨b1, o1, none⟩) l.length cc), (4, .pointer (some ⟨B4, 0, none⟩)), (5, .map (some R5)), (6, .pointer (some ⟨B6, 0, none⟩)), (7, .pointer (some ⟨B7, 0, none⟩)), (9, .pointer (some ⟨B9, 0, none⟩)), (23, .slice (some ⟨b1, o1, none⟩) l.length cc), (24, .int .i64 (l.length : Int)), (25, .int .i64 (i : Int))])
   (fun _ w' => afterD pre x.d = true ∧ ChkSt w w' base B4 R5 B6 B7 m pre Ds ∧ Blk w' B9 (dCells x.d x.u x.v) 38) ?_ ?_
  ·rintro _ w10 ⟨haf, H, Z9⟩
   clear X hlast hafter0
   have X := ExtB.refl (fun _ => False) w10
   repeat' (first | refine ZzA ?_ | refine RunL.ev Tryz.tOk rfl rfl rfl ?_ | refine RunL.evV rfl rfl rfl (OpV.loadN Tryz.tOk rfl rfl rfl rfl (Blk.row Z9)) ?_ | refine ZzQ ?_ | refine ZzR ?_)
   refine RunL.call rfl rfl rfl (dseen_ok x.d x.u x.v R5 _) ?_
   rintro _ w11 ⟨⟨bq, cq, rfl, Zb, Zc⟩, Xa_⟩
   replace H := H.up Xa_
   replace Z9 := Z9.up Xa_
   clear Xa_ X
   have hG := seen_gives x.d x.u x.v pre m R5 base bq cq w11 (hhx.seen.up H.X) hls hplen Zb Zc H.M H.B
   have hsz11 := H.sz
   have hDlt : ∀ D ∈ Ds, D < w11.heap.size := fun D hD => lt_of_get (H.D D hD)
   repeat' (first | refine ZzN ?_ | refine ZzB ?_)
   refine RunE.rangeGivesS (w0 := w11) (F := fun k => k < w11.heap.size) rfl ⟨_, Tryz.func22⟩ rfl hG (fun _ => False) (fun k hk => ⟨id, hk⟩) (ExtB.refl _ _) (fun xs hxs => ?_) rfl
    (fun j w' => Ext w11 w' ∧ ∀ g ∈ x.d.seen.take j, metD pre x.d.person g = true)
    (fun w' => (ExtB (· = B4) w11 w' ∧ Blk w' B4 [.int .i64 490] 27) ∧ stepD ks pre x.d = false) ?_ ?_ ?_ ?_ ?_ ?_ ?_
   ·obtain ⟨a, -, rfl⟩ := List.mem_map.1 hxs; rfl
   ·intro w2 e _; exact ⟨e, by simp⟩
   ·rintro j u ⟨h, -⟩; exact h
   ·rintro j u u' ⟨h, h'⟩ e; exact ⟨h.write e (by intro k hk hlt; omega), h'⟩
   ·rintro u u' ⟨⟨h, hz⟩, h'⟩ e
    exact ⟨⟨h.write e (by intro k hk hlt; omega), hz.ext e (by omega)⟩, h'⟩
   ·rintro j xs u lp hxs ⟨hE, hmet⟩ hL hs'
    obtain ⟨g, hg, rfl⟩ : ∃ g, x.d.seen[j]? = some g ∧ xs = [.agg (digC g).toArray, .int .i64 (otherI x.d.person (whoD pre g))] := by
     simp only [seenX, List.getElem?_map, Option.map_eq_some_iff] at hxs
     obtain ⟨a, h, rfl⟩ := hxs; exact ⟨a, h, rfl⟩
    have hom := other_met (x := g) (p := x.d.person) hpos
    simp only [parEnv]
    repeat' (first | (with_reducible refine RunLN.chk ?_; refine RunLN.int (by (rfl)) ?_) | refine RunL.ev Tryz.tOk rfl rfl rfl ?_ | refine ZzR ?_ | refine ZzN ?_)
    refine RunE.beginR hL hs' (by omega) fun u3 t3 hL3 => ?_
    have hE3 : Ext w11 u3 := hE.write t3 (by intro k hk hlt; omega)
    by_cases ho : otherI x.d.person (whoD pre g) < 0
    ·have hst : stepD ks pre x.d = false := by
      unfold stepD
      have : x.d.seen.all (metD pre x.d.person) = false := by
       rw [List.all_eq_false]
       exact ⟨g, List.mem_of_getElem? hg, by rw [hom.1 ho]; simp⟩
      rw [this]; simp
     repeat' (first | (with_reducible refine RunLN.decT ?_ ?_; focus omega) | (with_reducible refine RunLN.chk ?_; refine RunLN.int (by (rfl)) ?_) | refine RunL.ev Tryz.tOk rfl rfl rfl ?_ | refine ZzT rfl rfl ?_ | refine ZzQ ?_ | refine ZzR ?_ | refine ZzN ?_ | refine ZzB ?_)
     refine RunL.store Tryz.tOk rfl rfl rfl rfl rfl (H.Z4.up hE3) rfl rfl fun u5 t5 => ?_
     repeat' (first | refine ZzN ?_)
     exact RunE.stopS ⟨⟨(hE3.mono fun k _ h => h.elim).trans t5.ext, t5.at_⟩, hst⟩ (hL3.ext t5.ext (by omega) (by omega))
    ·have hmt : metD pre x.d.person g = true := by
      cases e : metD pre x.d.person g with
      | true => rfl
      | false => exact absurd (hom.2 e) ho
     repeat' (first | (with_reducible refine RunLN.decF ?_ ?_; focus omega) | (with_reducible refine RunLN.chk ?_; refine RunLN.int (by (rfl)) ?_) | refine RunL.ev Tryz.tOk rfl rfl rfl ?_ | refine ZzF rfl rfl ?_ | refine ZzQ ?_ | refine ZzR ?_ | refine ZzN ?_ | refine ZzB ?_ | refine ZzI ?_ | refine ZzK ?_)
     refine RunE.endS ⟨hE3, fun q hq => ?_⟩ hL3
     rw [List.take_add_one, hg] at hq
     rcases List.mem_append.1 hq with hq | hq
     ·exact hmet q hq
     ·have : q = g := by simpa using hq
      rw [this]; exact hmt
   ·rintro w12 ⟨hE, hmet⟩ hDq
    have hlenX : (seenX pre x.d).length = x.d.seen.length := by simp [seenX]
    rw [hlenX, List.take_length] at hmet
    have hstep : stepD ks pre x.d = true := stepD_of hf hno hpv haf hmet
    show RunE _ _ _ (List.map markOf (w11.heap.size :: Ds)) _ _ _ _
    have hs12 := hE.size
    replace H : ChkSt w w12 base B4 R5 B6 B7 m pre (w11.heap.size :: Ds) := by
     have H' := H.up hE
     refine ⟨H'.X, H'.Z4, H'.Z6, H'.Z7, H'.M, H'.B, fun D hD => ?_, List.nodup_cons.2 ⟨fun h => by have := hDlt _ h; omega, H.nd⟩, fun D hD => ?_, by omega⟩
     ·rcases List.mem_cons.1 hD with rfl | hD
      ·exact hDq
      ·exact H'.D D hD
     ·rcases List.mem_cons.1 hD with rfl | hD
      ·exact hsz11
      ·exact H.ge D hD
    have hs12' := H.sz
    replace next := fun m' => next m' (w11.heap.size :: Ds)
    generalize hDs : w11.heap.size :: Ds = Ds' at H next ⊢
    replace Z9 := Z9.up hE
    clear hDq hE hG Zb Zc hDlt hsz11 hDs hs12 hmet hlenX haf hbad
    have hform := (fineD_inv hf).1
    have ct := fun w h1 h2 => dtext_ok x.d x.u x.v w h1 h2 hform
    have X := ExtB.refl (fun _ => False) w12
    repeat' (first | refine ZzA ?_ | refine RunL.evV rfl rfl rfl (OpV.loadN Tryz.tOk rfl rfl rfl rfl (Blk.row Z9)) ?_ | refine ZzQ ?_ | refine ZzR ?_ | refine ZzI ?_)
    refine RunL.call rfl rfl rfl (ct _ (hhx.seen.up H.X) (hhx.data.up H.X)) ?_
    rintro rt w13 ⟨O13, Xa_⟩
    have hrt : LBy w13 rt (textD x.d) := isSl_own O13
    replace H := H.up Xa_
    replace Z9 := Z9.up Xa_
    replace X := X.trans Xa_
    clear O13 Xa_ ct
    skip
    refine RunL.call rfl rfl rfl (dtag_ok x.d rt w13 hrt hform (hS.up H.X) (hkT.up H.X)) ?_
    rintro _ w14 ⟨rfl, Xa_⟩
    replace H := H.up Xa_
    replace Z9 := Z9.up Xa_
    replace X := X.trans Xa_
    clear Xa_ hrt
    skip
    refine RunL.alloc Tryz.tOk rfl rfl rfl fun B13 wa_ aa_ => ?_
    have gB13 := aa_.ge X
    refine RunL.storeW (vs := digC (idD x.d)) Tryz.tOk rfl rfl rfl rfl rfl aa_.at_ rfl rfl fun w13_ tb_ => ?_
    have Xa_ : Ext _ w13_ := aa_.ext.write tb_.ext (by intro i_ hi_ hlt_; have := aa_.eq; omega)
    have Z13 : Blk w13_ B13 (digC (idD x.d)) 32 := tb_.at_
    have n9_13 : B9 ≠ B13 := by have := Z9.lt; have := aa_.eq; omega
    have n13_9 : B13 ≠ B9 := Ne.symm n9_13
    replace H := H.up Xa_
    replace Z9 := Z9.up Xa_
    replace X := X.trans Xa_
    clear Xa_ aa_ tb_
    repeat' (first | (with_reducible refine RunLN.chk ?_; refine RunLN.int (by (rfl)) ?_) | refine ZzA ?_ | refine RunL.ev Tryz.tOk rfl rfl rfl ?_ | refine RunL.evV rfl rfl rfl (OpV.load1 Tryz.tOk rfl rfl rfl (Blk.cell Z9 rfl)) ?_ | refine RunL.evV rfl rfl rfl (OpV.loadN Tryz.tOk rfl rfl rfl rfl (Blk.row Z13)) ?_ | refine ZzQ ?_ | refine ZzR ?_ | refine ZzN ?_)
    refine RunL.ex rfl rfl rfl (OpE.buildSl Tryz.tOk [.int .i64 x.d.person] rfl rfl rfl rfl rfl rfl (by simp [Value.cells])) ?_
    rintro _ w15 ⟨B15, rfl, a15⟩
    have hx1 : LIn w15 (.slice (some ⟨B15, 0, none⟩) 1 1) [x.d.person] := isSl_added (n := 1) (sz := 1) a15 rfl
    have l15 : base ≤ B15 := by have := a15.eq; have := H.sz; omega
    replace H := H.up a15.ext
    replace Z9 := Z9.up a15.ext
    replace Z13 := Z13.up a15.ext
    clear a15
    skip
    refine RunL.ex rfl rfl rfl (OpE.mapEntryDg (z := nilV) Tryz.underlying76 keyDg (by kernel_rfl) rfl rfl H.M) ?_
    rintro _ w16 ⟨st, rfl, hEn, e16, s16⟩
    have l9' := Z9.lt
    have l13 : base ≤ B13 := by have := H.X.size; have := gB13; omega
    have k9 : B9 ≠ R5 := by omega
    have k13 : B13 ≠ R5 := by omega
    have hO := ownsRow_ext (H.B.own (idD x.d)) e16 (fun k hk e => by have := ownsRow_ge (H.B.own (idD x.d)) hk; omega)
    have hx2 : LIn w16 (.slice (some ⟨B15, 0, none⟩) 1 1) [x.d.person] := hx1.ext e16 (fun k hk e => by simp [Value.ownBlock] at hk; omega)
    have hB1 : ByOk w16 base m pre := H.B.ext e16 (fun k cs hb _ e => by omega)
    have X16 : Ext w w16 := H.X.write e16 (by intro k hk hlt; omega)
    have Y4 := H.Z4.ext e16 (Ne.symm n4)
    have Y6 := H.Z6.ext e16 (Ne.symm n6)
    have Y7 := H.Z7.ext e16 (Ne.symm n7)
    have YD : ∀ D ∈ Ds', w16.heap[D]? = some (.deferred (some [])) := fun D hD => obj_ext (H.D D hD) e16 (by have := H.ge D hD; omega)
    have Y9 := Z9.ext e16 k9
    have Y13 := Z13.ext e16 k13
    have hs16 : base ≤ w16.heap.size := by have := H.sz; omega
    have hnd := H.nd
    have hge := H.ge
    have hpl : (whoD pre (idD x.d)).length ≤ 4096 := by
     unfold whoD
     rw [List.length_map]
     exact Nat.le_trans (List.length_filter_le _ _) hplen
    have hon : ∀ k, ((getM (idD x.d).1 m).getD nilV).ownBlock = some k → base ≤ k ∧ ∃ cs, w16.heap[k]? = some (.cells cs 3 (0, 0)) := fun k hk => by
     refine ⟨ownsRow_ge hO hk, ?_⟩
     rcases hO.2 with ⟨h0, -⟩ | ⟨g, c, cur, h0, hb, hg, -⟩
     ·rw [h0] at hk; simp [Value.ownBlock] at hk
     ·rw [h0] at hk
      have : k = g := by simpa [Value.ownBlock] using hk.symm
      subst this
      exact ⟨cur, hg⟩
    clear H hx1 e16 s16 Z9 Z13 X
    repeat' (first | refine ZzA ?_ | refine RunL.ev Tryz.tOk rfl rfl rfl ?_)
    refine RunL.ex rfl rfl rfl (OpE.append' Tryz.tOk rfl rfl rfl rfl rfl rfl hO hx2 (flat_plain encIn [x.d.person]) (by show _ * 8 ≤ _; simp only [List.length_singleton]; omega) (by simp only [List.length_singleton]; omega) hs16) ?_
    rintro u' w17 ⟨O17, E17, hown⟩
    have hB2 := hB1.snoc (d := x.d) E17 (by rw [← flat_one (enc := intC')]; exact O17) hown
    have hEn2 := hEn.ext E17 (fun h => by have := (hon _ h).1; omega)
    have X17 : Ext w w17 := X16.write E17 (by intro k hk hlt; have := (hon _ hk).1; omega)
    replace Y4 := Y4.ext E17 (fun h => by have := (hon _ h).1; omega)
    replace Y6 := Y6.ext E17 (fun h => by have := (hon _ h).1; omega)
    replace Y7 := Y7.ext E17 (fun h => by have := (hon _ h).1; omega)
    have hcell : ∀ {b : Nat} {cs : List Value} {t : TypeId}, Blk w16 b cs t → t ≠ 3 → ¬ ((getM (idD x.d).1 m).getD nilV).ownBlock = some b := fun hb ht h => by
     obtain ⟨-, cs', hc⟩ := hon _ h
     rw [hb] at hc
     injection hc with hc
     injection hc with _ h2
     exact ht h2
    replace Y9' := Y9.ext E17 (hcell Y9 (by decide))
    replace Y13' := Y13.ext E17 (hcell Y13 (by decide))
    have YD' : ∀ D ∈ Ds', w17.heap[D]? = some (.deferred (some [])) := fun D hD => obj_ext (YD D hD) E17 (fun h => by
     obtain ⟨-, cs', hc⟩ := hon _ h
     rw [YD D hD] at hc; cases hc)
    have hs17 := E17.size
    clear hO hx2 hB1 hEn O17 hown hon hcell Y9 Y13 YD X16
    repeat' (first | (with_reducible refine RunLN.chk ?_; refine RunLN.int (by (rfl)) ?_) | refine RunL.ev Tryz.tOk rfl rfl rfl ?_)
    refine RunL.exN rfl rfl (OpE.entryStore rfl rfl rfl hEn2) ?_
    rintro _ w18 ⟨hM18, e18, s18⟩
    have hB3 : ByOk w18 base _ _ := hB2.ext e18 (fun k cs hb _ e => by omega)
    have X18 : Ext w w18 := X17.write e18 (by intro k hk hlt; omega)
    replace Y4 := Y4.ext e18 (Ne.symm n4)
    replace Y6 := Y6.ext e18 (Ne.symm n6)
    replace Y7 := Y7.ext e18 (Ne.symm n7)
    replace Y9' := Y9'.ext e18 k9
    replace Y13' := Y13'.ext e18 k13
    replace YD' : ∀ D ∈ Ds', w18.heap[D]? = some (.deferred (some [])) := fun D hD => obj_ext (YD' D hD) e18 (by have := hge D hD; omega)
    have hs18 : base ≤ w18.heap.size := by omega
    generalize setM (idD x.d).1 u' m = m' at hM18 hB3
    clear hB2 hEn2 e18 X17 s18 hs17
    have k96 : B9 ≠ B6 := by omega
    have k136 : B13 ≠ B6 := by omega
    have k97 : B9 ≠ B7 := by omega
    repeat' (first | (with_reducible refine RunLN.chk ?_; refine RunLN.int (by (rfl)) ?_) | refine ZzA ?_ | refine RunL.ev Tryz.tOk rfl rfl rfl ?_ | refine RunL.evV rfl rfl rfl (OpV.load1 Tryz.tOk rfl rfl rfl (Blk.cell Y9' rfl)) ?_ | refine RunL.evV rfl rfl rfl (OpV.loadN Tryz.tOk rfl rfl rfl rfl (Blk.row Y13')) ?_ | refine RunL.evV rfl rfl rfl ((OpV.indexA Tryz.t2Ok x.d.person.toNat rfl rfl rfl (by omega) hnp)) ?_ | refine ZzQ ?_ | refine ZzR ?_ | refine ZzN ?_)
    refine RunL.storeFlat Tryz.tOk encG x.d.person.toNat (idD x.d) rfl rfl rfl rfl rfl rfl Y6 (by rw [lastL_len]; exact hnp) fun w19 t19 => ?_
    rw [lastL_snoc p0 p1] at t19
    have hB4 : ByOk w19 base m' (pre ++ [x.d]) := hB3.ext t19.ext (fun k cs hb _ e => by omega)
    have hM19 : MDg w19 R5 m' := hM18.ext t19.ext n6
    have X19 : Ext w w19 := X18.own t19.ext gB6
    replace Y4 := Y4.other t19.ext n46
    have Y6' : Blk w19 B6 (flat digC (lastL (pre ++ [x.d]))) 90 := t19.at_
    replace Y7 := Y7.other t19.ext (Ne.symm n67)
    replace Y9' := Y9'.other t19.ext k96
    replace YD' : ∀ D ∈ Ds', w19.heap[D]? = some (.deferred (some [])) := fun D hD => obj_ext (YD' D hD) t19.ext (by have := hge D hD; omega)
    have hs19 : base ≤ w19.heap.size := by have := t19.ext.size; omega
    clear hB3 hM18 X18 t19 Y6 Y13' hs18
    have hn7 := flat_row encIn Y7.row (nextL_get (pre := pre) p0 p1)
    have hnx0 := nextD_nonneg pre x.d.person
    have hnx1 := nextD_le pre x.d.person
    have hsnoc := nextL_snoc (pre := pre) p0 p1
    generalize nextD pre x.d.person = nx at hn7 hnx0 hnx1 hsnoc
    repeat' (first | (with_reducible refine RunLN.chk ?_; refine RunLN.int (by (first | (refine wr_i64 ?_ ?_; omega; omega) | rfl)) ?_) | refine ZzA ?_ | refine RunL.ev Tryz.tOk rfl rfl rfl ?_ | refine RunL.evV rfl rfl rfl (OpV.load1 Tryz.tOk rfl rfl rfl (Blk.cell Y9' rfl)) ?_ | refine RunL.evV rfl rfl rfl ((OpV.indexA Tryz.tOk x.d.person.toNat rfl rfl rfl (by omega) hnp)) ?_ | refine RunL.evV rfl rfl rfl (OpV.load1 Tryz.tOk rfl rfl rfl (hn7 0 _ rfl)) ?_ | refine ZzR ?_ | refine ZzN ?_)
    refine RunL.storeFlat Tryz.tOk encIn x.d.person.toNat (nx + 1) rfl rfl rfl rfl rfl rfl Y7 (by rw [nextL_len]; exact hnp) fun w20 t20 => ?_
    rw [hsnoc] at t20
    have H : ChkSt w w20 base B4 R5 B6 B7 m' (pre ++ [x.d]) Ds' := by
     refine ⟨X19.own t20.ext gB7, Y4.other t20.ext n47, Y6'.other t20.ext n67, t20.at_, hM19.ext t20.ext n7, hB4.ext t20.ext (fun k cs hb _ e => by omega), fun D hD => ?_, hnd, hge, ?_⟩
     ·exact obj_ext (YD' D hD) t20.ext (by have := hge D hD; omega)
     ·have := t20.ext.size; omega
    clear hB4 hM19 X19 t20 Y6' Y4 Y9' YD' hn7 hsnoc
    replace next := next m' _ (hgood hstep) H
    clear H hgood hstep
    repeat' (first | (with_reducible refine RunLN.chk ?_; refine RunLN.int (by (first | (refine wr_i64 ?_ ?_; omega; omega) | rfl)) ?_) | refine RunL.ev Tryz.tOk rfl rfl rfl ?_ | refine ZzR ?_ | refine ZzN ?_ | refine ZzI ?_)
    refine RunE.weaken ?_ next
    repeat (first | exact Sub.nil _ | refine Sub.cons rfl ?_)
   ·rintro w12 ⟨⟨hE, hz⟩, hst⟩ hDq
    show RunE _ _ _ (List.map markOf (w11.heap.size :: Ds)) _ _ _ _
    refine ChkSt.out (e := 490) (H.X.write hE (by intro k hk hlt; omega)) (fun D hD => ?_) (List.nodup_cons.2 ⟨fun h => by have := hDlt _ h; omega, H.nd⟩) (fun D hD => ?_) hbase Tryz.func22 (fun w' e => .cell rfl (Loads.scalar Tryz.tOk rfl rfl ((hz.ext e (fun h => ?_)).cell rfl)) .nil) (hbad hst).symm
    ·rcases List.mem_cons.1 hD with rfl | hD
     ·exact hDq
     ·exact obj_ext (H.D D hD) hE (by have := H.ge D hD; omega)
    ·rcases List.mem_cons.1 hD with rfl | hD
     ·exact hsz11
     ·exact H.ge D hD
    ·rcases List.mem_cons.1 h with h | h
     ·omega
     ·have := H.ge B4 h; omega
  ·intro join
   refine RunE.cond rfl (fun h_ => ?_) (fun h_ => ?_)
   rotate_left
   ·have hi0 : i = 0 := by have := of_decide_eq_false h_; omega
    clear next
    (repeat (first | refine ZzK ?_))
    exact RunE.weaken (by repeat (first | exact Sub.nil _ | refine Sub.cons rfl ?_)) (join () _ ⟨hafter0 hi0, H, Z9⟩)
   ·obtain ⟨j, rfl⟩ : ∃ j, i = j + 1 := ⟨i - 1, by have := of_decide_eq_true h_; omega⟩
    obtain ⟨y, hy, hyl⟩ := hlast j rfl
    have hry := flat_row encR (hr1.up H.X) hy
    have haf : afterD pre x.d = befD y.d x.d := by unfold afterD; rw [hyl]
    clear next hgood hafter0 hlast
    repeat' (first | (with_reducible refine RunLN.chk ?_; refine RunLN.int (by (first | (refine wr_i64 ?_ ?_; omega; omega) | rfl)) ?_) | refine ZzA ?_ | refine RunL.ev Tryz.tOk rfl rfl rfl ?_ | refine RunL.evV rfl rfl rfl (OpV.indexS Tryz.tOk j rfl rfl rfl (by first | rfl | omega) (by omega)) ?_ | refine RunL.evV rfl rfl rfl (OpV.loadN Tryz.tOk rfl rfl rfl rfl hry) ?_ | refine ZzQ ?_ | refine ZzR ?_)
    refine RunL.alloc Tryz.tOk rfl rfl rfl fun B10 wa_ aa_ => ?_
    have gB10 := aa_.ge X
    refine RunL.storeW (vs := dCells y.d y.u y.v) Tryz.tOk rfl rfl rfl rfl rfl aa_.at_ rfl rfl fun w10_ tb_ => ?_
    have Xa_ : Ext _ w10_ := aa_.ext.write tb_.ext (by intro i_ hi_ hlt_; have := aa_.eq; omega)
    have Z10 : Blk w10_ B10 (dCells y.d y.u y.v) 38 := tb_.at_
    have n9_10 : B9 ≠ B10 := by have := Z9.lt; have := aa_.eq; omega
    have n10_9 : B10 ≠ B9 := Ne.symm n9_10
    replace H := H.up Xa_
    replace Z9 := Z9.up Xa_
    replace X := X.trans Xa_
    clear Xa_ aa_ tb_
    cases hb : befD y.d x.d with
    | true =>
     rw [hb] at haf
     have hb' := hb
     have : y.d.at_ < x.d.at_ ∨ (y.d.at_ = x.d.at_ ∧ y.d.person < x.d.person) ∨ (y.d.at_ = x.d.at_ ∧ y.d.person = x.d.person ∧ y.d.no < x.d.no) := by
      have := Go.Mer.befD_iff'.1 hb'; omega
     clear hb hb'
     rcases this with h | h | h
     all_goals
      repeat' (first | with_reducible refine ZzP rfl ?_ | with_reducible refine ZzG rfl ?_ | (with_reducible refine RunLN.decF ?_ ?_; focus omega) | (with_reducible refine RunLN.eqT ?_ ?_; focus omega) | (with_reducible refine RunLN.eqF ?_ ?_; focus omega) | (with_reducible refine RunLN.chk ?_; refine RunLN.int (by (rfl)) ?_) | refine ZzA ?_ | refine RunL.ev Tryz.tOk rfl rfl rfl ?_ | refine RunL.unwantedD rfl rfl ?_ | refine RunL.evV rfl rfl rfl (OpV.load1 Tryz.tOk rfl rfl rfl (Blk.cell Z9 rfl)) ?_ | refine RunL.evV rfl rfl rfl (OpV.load1 Tryz.tOk rfl rfl rfl (Blk.cell Z10 rfl)) ?_ | refine ZzQ ?_ | refine ZzR ?_ | refine ZzN ?_)
      refine ZzF rfl rfl ?_
      (repeat (first | refine ZzK ?_))
      exact RunE.weaken (by repeat (first | exact Sub.nil _ | refine Sub.cons rfl ?_)) (join () _ ⟨haf, H, Z9⟩)
    | false =>
     rw [hb] at haf
     have hstep : stepD ks pre x.d = false := by unfold stepD; rw [haf]; simp
     have : x.d.at_ < y.d.at_ ∨ (y.d.at_ = x.d.at_ ∧ x.d.person < y.d.person) ∨ (y.d.at_ = x.d.at_ ∧ y.d.person = x.d.person ∧ x.d.no ≤ y.d.no) := by
      have hn : ¬ befD y.d x.d = true := by rw [hb]; simp
      rw [Go.Mer.befD_iff'] at hn
      omega
     clear hb
     rcases this with h | h | h
     all_goals
      repeat' (first | with_reducible refine ZzP rfl ?_ | with_reducible refine ZzG rfl ?_ | (with_reducible refine RunLN.decT ?_ ?_; focus omega) | (with_reducible refine RunLN.decF ?_ ?_; focus omega) | (with_reducible refine RunLN.eqT ?_ ?_; focus omega) | (with_reducible refine RunLN.chk ?_; refine RunLN.int (by (rfl)) ?_) | refine ZzA ?_ | refine RunL.ev Tryz.tOk rfl rfl rfl ?_ | refine RunL.unwantedD rfl rfl ?_ | refine RunL.evV rfl rfl rfl (OpV.load1 Tryz.tOk rfl rfl rfl (Blk.cell Z9 rfl)) ?_ | refine RunL.evV rfl rfl rfl (OpV.load1 Tryz.tOk rfl rfl rfl (Blk.cell Z10 rfl)) ?_ | refine ZzT rfl rfl ?_ | refine ZzQ ?_ | refine ZzR ?_ | refine ZzN ?_)
      refine RunL.store Tryz.tOk rfl rfl rfl rfl rfl H.Z4 rfl rfl fun u5 t5 => ?_
      have Z4' : Blk u5 B4 [.int .i64 490] 27 := t5.at_
      have hD5 : ∀ D ∈ Ds, u5.heap[D]? = some (.deferred (some [])) := fun D hD => obj_ext (H.D D hD) t5.ext (by have := H.ge D hD; omega)
      have X5 : Ext w u5 := H.X.own t5.ext g4
      repeat' (first | refine ZzN ?_)
      exact ChkSt.out (e := 490) X5 hD5 H.nd H.ge hbase Tryz.func22 (fun w' e => .cell rfl (Loads.scalar Tryz.tOk rfl rfl ((Z4'.ext e (fun h => by have := H.ge B4 h; omega)).cell rfl)) .nil) (hbad hstep).symm
end Go.Sg
end
section
/- Merge: the program's check. -/
set_option maxRecDepth 4000
namespace Go.Mer
open Go.Rn Go.Rec Go.Dee Go.Sg Go.NT
def chkM (ks : List Int) (ls : List Ll) : Int := if keysD ks then (if 64 < ls.length ∨ 4096 < lenD ls then 2 else 0) else 1
end Go.Mer
namespace Go.Sg
open Go.Rn Go.Proofs Go.Dee Go.Mer Go.Rec Go.RowKit Go.Sha Go.Cod Go.NT
attribute [local irreducible] keysD Go.Rn.RetsX Go.Rn.RunLN Go.Rn.AsyN Go.Rn.RunL Go.Rn.RunE Go.Rn.Asy Go.Rn.OpV Go.Rn.OpE Go.Rn.ExecE
set_option maxHeartbeats 4000000 in
theorem mcheck_ok (ks : List Int) (kv : Value) (ls : List Ll) (lv : Value) (w : World) (hk : LIn w kv ks) (hkl : ks.length < 9223372036854775808) (hki : KsI ks) (hv : LLl w lv ls) (hl : ls.length < 9223372036854775808) (hn : lenD ls < 9223372036854775808) (hS : Row w 0 0 (vals init8.l)) (hkT : Row w 1 0 (vals kTab)) :
  Rets Tryz.prog 28 [kv, lv] w fun r w' => r = .int .i64 (chkM ks ls) ∧ Ext w w' := by
 have c1 := fun w h h1 h2 => dcheck_ok ks kv [] (.slice none 0 0) w h hkl hki IsSl.nil (by decide) (fun x hx => by simp at hx) h1 h2
 have e1 : chkE ks (([] : List Dr).map Dr.d) = if keysD ks then 0 else 1 := by unfold chkE; rfl
 rw [e1] at c1
 refine RetsX.of (nt := 29) Tryz.func28 (by kernel_rfl) rfl rfl (by simp) (by simp only [argEnv]; rfl) ?_
 have X := ExtB.refl (fun _ => False) w
 repeat' (first | (with_reducible refine RunLN.chk ?_; refine RunLN.int (by (rfl)) ?_) | refine ZzA ?_ | refine RunL.ev Tryz.tOk rfl rfl rfl ?_ | refine ZzQ ?_ | refine ZzR ?_ | refine ZzN ?_)
 refine RunL.call rfl rfl rfl (c1 _ (hk.up X) (hS.up X) (hkT.up X)) ?_
 rintro _ _ ⟨rfl, Xa_⟩
 replace X := X.trans Xa_
 clear Xa_
 clear c1 e1
 cases hkd : keysD ks with
 | false =>
  rw [show chkM ks ls = 1 by unfold chkM; rw [hkd]; rfl]
  repeat' (first | with_reducible refine ZzP rfl ?_ | (with_reducible refine RunLN.chk ?_; refine RunLN.int (by (rfl)) ?_) | refine RunL.ev Tryz.tOk rfl rfl rfl ?_ | refine ZzT rfl rfl ?_ | refine ZzQ ?_ | refine ZzR ?_ | refine ZzN ?_)
  exact RunE.retFn Tryz.func28 (.tmp rfl .nil) ⟨rfl, X⟩
 | true =>
  have hr : chkM ks ls = if 64 < ls.length ∨ 4096 < lenD ls then 2 else 0 := by unfold chkM; rw [hkd]; rfl
  rw [hr]
  clear hr hkd
  repeat' (first | with_reducible refine ZzG rfl ?_ | (with_reducible refine RunLN.chk ?_; refine RunLN.int (by (rfl)) ?_) | refine ZzA ?_ | refine RunL.ev Tryz.tOk rfl rfl rfl ?_ | refine RunL.evV rfl rfl rfl (OpV.lenSl Tryz.tOk rfl rfl hv) ?_ | refine ZzF rfl rfl ?_ | refine ZzQ ?_ | refine ZzR ?_ | refine ZzN ?_ | refine ZzB ?_ | refine ZzK ?_)
  refine RunE.loop (ι := Nat × Value) (fun s => [(0, kv), (1, lv), (4, .int .i64 0), (5, .int .i64 (lenD (ls.take s.1) : Int)), (11, lv), (12, .int .i64 (ls.length : Int)), (13, .int .i64 (s.1 : Int))])
   (fun s w' => s.1 ≤ ls.length ∧ Ext w w') (fun s => ls.length - s.1) (0, nilV) (by repeat (first | exact Sub.nil _ | refine Sub.cons rfl ?_)) ⟨Nat.zero_le _, X⟩ ?_
  clear X
  rintro ⟨i, _⟩ w3 ⟨hi, X⟩ again
  simp only at hi again ⊢
  by_cases hlt : i < ls.length
  ·obtain ⟨b1, o1, cc, rfl, hr1, -⟩ := isL_held hv hlt
   obtain ⟨x, hx⟩ : ∃ x, ls[i]? = some x := ⟨_, List.getElem?_eq_getElem hlt⟩
   have hrx := flat_row encLl hr1 hx
   have e2 := lenD_take hx
   have e3 := lenD_le ls (i + 1)
   have next := fun w' a => again (i + 1, nilV) w' (by simp only; omega) ⟨by simp only; omega, a⟩
   simp only at next
   rw [e2, Int.natCast_add] at next
   clear again
   generalize lenD (ls.take i) = m at *
   repeat' (first | (with_reducible refine RunLN.decT ?_ ?_; focus omega) | (with_reducible refine RunLN.chk ?_; refine RunLN.int (by (first | (refine wr_i64 ?_ ?_; omega; omega) | rfl)) ?_) | refine ZzA ?_ | refine RunL.ev Tryz.tOk rfl rfl rfl ?_ | refine RunL.evV rfl rfl rfl (OpV.load1 Tryz.tOk rfl rfl rfl ((hrx.up X) 0 _ rfl)) ?_ | refine RunL.evV rfl rfl rfl (OpV.indexS Tryz.tOk _ rfl rfl rfl rfl (by omega)) ?_ | refine ZzT rfl rfl ?_ | refine ZzQ ?_ | refine ZzR ?_ | refine ZzN ?_ | refine ZzB ?_ | refine ZzI ?_ | refine ZzK ?_)
   exact RunE.weaken (by repeat (first | exact Sub.nil _ | refine Sub.cons rfl ?_)) (next _ X)
  obtain rfl : i = ls.length := by omega
  rw [List.take_length]
  clear again
  by_cases h1 : 64 < ls.length
  ·rw [if_pos (.inl h1)]
   repeat' (first | with_reducible refine ZzP rfl ?_ | (with_reducible refine RunLN.decT ?_ ?_; focus omega) | (with_reducible refine RunLN.decF ?_ ?_; focus omega) | (with_reducible refine RunLN.chk ?_; refine RunLN.int (by (rfl)) ?_) | refine ZzA ?_ | refine RunL.ev Tryz.tOk rfl rfl rfl ?_ | refine RunL.unwantedD rfl rfl ?_ | refine RunL.evV rfl rfl rfl (OpV.lenSl Tryz.tOk rfl rfl hv) ?_ | refine ZzT rfl rfl ?_ | refine ZzF rfl rfl ?_ | refine ZzQ ?_ | refine ZzR ?_ | refine ZzN ?_ | refine RunE.exit rfl ?_)
   exact RunE.retFn Tryz.func28 (.tmp rfl .nil) ⟨rfl, X⟩
  ·by_cases h2 : 4096 < lenD ls
   ·rw [if_pos (.inr h2)]
    repeat' (first | with_reducible refine ZzP rfl ?_ | with_reducible refine ZzG rfl ?_ | (with_reducible refine RunLN.decT ?_ ?_; focus omega) | (with_reducible refine RunLN.decF ?_ ?_; focus omega) | (with_reducible refine RunLN.chk ?_; refine RunLN.int (by (rfl)) ?_) | refine ZzA ?_ | refine RunL.ev Tryz.tOk rfl rfl rfl ?_ | refine RunL.evV rfl rfl rfl (OpV.lenSl Tryz.tOk rfl rfl hv) ?_ | refine ZzT rfl rfl ?_ | refine ZzF rfl rfl ?_ | refine ZzQ ?_ | refine ZzR ?_ | refine ZzN ?_ | refine RunE.exit rfl ?_)
    exact RunE.retFn Tryz.func28 (.tmp rfl .nil) ⟨rfl, X⟩
   ·rw [if_neg (by omega)]
    repeat' (first | with_reducible refine ZzG rfl ?_ | (with_reducible refine RunLN.decF ?_ ?_; focus omega) | (with_reducible refine RunLN.chk ?_; refine RunLN.int (by (rfl)) ?_) | refine ZzA ?_ | refine RunL.ev Tryz.tOk rfl rfl rfl ?_ | refine RunL.evV rfl rfl rfl (OpV.lenSl Tryz.tOk rfl rfl hv) ?_ | refine ZzF rfl rfl ?_ | refine ZzQ ?_ | refine ZzR ?_ | refine ZzN ?_ | refine ZzK ?_ | refine RunE.exit rfl ?_)
    exact RunE.retFn Tryz.func28 (.tmp rfl .nil) ⟨rfl, X⟩
end Go.Sg
end
section
/- Merge (chapter 50): plain. -/
set_option maxRecDepth 4000
namespace Go.Mer
open Go.NT Go.Sg Go.Sha Go.Cod Go.Dee
section
variable {α : Type} (f : α → Deed)
/-- What is left, of things that bear deeds. -/
def thereL (l : List α) (d : Deed) : Bool := l.any fun y => sameF (f y) d
def stepL (ks : List Int) (out : List α) (x : α) : List α := if fineD ks (f x) && !thereL f out (f x) then out ++ [x] else out
def leftL (ks : List Int) (l : List α) : List α := l.foldl (stepL f ks) []
def atL (l : List α) (p n : Int) : List α := l.filter fun y => decide ((f y).person = p ∧ (f y).no = n)
def forkL (l : List α) (p : Int) : Option Nat := (List.range 4096).find? fun n => decide (2 ≤ (atL f l p (n : Int)).length)
def keptL (l : List α) (y : α) : Bool := match forkL f l (f y).person with
 | none => true
 | some n => decide ((f y).no < (n : Int))
def takenL (l : List α) : List α := l.filter (keptL f l)
def passL (ks : List Int) (l : List α) : List α := l.foldl (fun out y => if stepD ks (out.map f) (f y) then out ++ [y] else out) []
theorem thereL_map (l : List α) (d : Deed) : thereL f l d = thereL id (l.map f) d := by
 unfold thereL
 rw [List.any_map]; rfl
theorem stepL_map (ks : List Int) (out : List α) (x : α) : (stepL f ks out x).map f = stepL id ks (out.map f) (f x) := by
 unfold stepL
 rw [thereL_map]
 simp only [id]
 split
 ·rw [List.map_append]; rfl
 ·rfl
theorem foldL_map (ks : List Int) (l out : List α) : (l.foldl (stepL f ks) out).map f = (l.map f).foldl (stepL id ks) (out.map f) := by
 induction l generalizing out with
 | nil => rfl
 | cons x l ih => rw [List.foldl_cons, ih, stepL_map, List.map_cons, List.foldl_cons]
theorem leftL_map (ks : List Int) (l : List α) : (leftL f ks l).map f = leftL id ks (l.map f) := foldL_map f ks l []
theorem atL_map (l : List α) (p n : Int) : (atL f l p n).map f = atL id (l.map f) p n := by
 unfold atL
 rw [List.filter_map]; rfl
theorem atL_length (l : List α) (p n : Int) : (atL f l p n).length = (atL id (l.map f) p n).length := by rw [← atL_map, List.length_map]
theorem forkL_map (l : List α) (p : Int) : forkL f l p = forkL id (l.map f) p := by
 unfold forkL
 congr 1; funext n
 rw [atL_length]
attribute [irreducible] forkL
theorem keptL_map (l : List α) (y : α) : keptL f l y = keptL id (l.map f) (f y) := by
 unfold keptL
 simp only [forkL_map f l, id]
theorem takenL_map (l : List α) : (takenL f l).map f = takenL id (l.map f) := by
 have h : l.filter (keptL f l) = l.filter (keptL id (l.map f) ∘ f) := List.filter_congr fun y _ => keptL_map f l y
 unfold takenL
 rw [List.filter_map, h]
theorem passL_go (ks : List Int) (l out : List α) : (l.foldl (fun out y => if stepD ks (out.map f) (f y) then out ++ [y] else out) out).map f = (l.map f).foldl (fun out y => if stepD ks (out.map id) (id y) then out ++ [y] else out) (out.map f) := by
 induction l generalizing out with
 | nil => rfl
 | cons x l ih =>
  rw [List.foldl_cons, ih, List.map_cons, List.foldl_cons]
  congr 1
  simp only [List.map_id, id]
  split <;> simp
theorem passL_map (ks : List Int) (l : List α) : (passL f ks l).map f = passL id ks (l.map f) := passL_go f ks l []
end
abbrev leftD (ks : List Int) (l : List Deed) : List Deed := leftL id ks l
abbrev forkD (l : List Deed) (p : Int) : Option Nat := forkL id l p
abbrev takenD (l : List Deed) : List Deed := takenL id l
def insD (out : List Deed) (d : Deed) : List Deed := out.takeWhile (fun y => befD y d) ++ d :: out.dropWhile (fun y => befD y d)
def sortD (l : List Deed) : List Deed := l.foldl insD []
def mergeD (ks : List Int) (l : List Deed) : List Deed := passL id ks (sortD (takenD (leftD ks l)))
/-! ### Left -/
theorem foldL_snoc (ks : List Int) (l : List Deed) (d : Deed) : leftD ks (l ++ [d]) = stepL id ks (leftD ks l) d := by
 show List.foldl _ _ _ = _
 rw [List.foldl_append]; rfl
theorem stepL_mem {ks : List Int} {out : List Deed} {x y : Deed} : y ∈ stepL id ks out x ↔ y ∈ out ∨ (y = x ∧ fineD ks x = true ∧ thereL id out x = false) := by
 unfold stepL
 simp only [id]
 split
 ·rename_i h
  simp only [Bool.and_eq_true, Bool.not_eq_true'] at h
  rw [List.mem_append, List.mem_singleton]
  constructor
  ·rintro (h1 | h1)
   ·exact .inl h1
   ·exact .inr ⟨h1, h⟩
  ·rintro (h1 | ⟨h1, -⟩)
   ·exact .inl h1
   ·exact .inr h1
 ·rename_i h
  constructor
  ·exact fun h1 => .inl h1
  ·rintro (h1 | ⟨-, h2, h3⟩)
   ·exact h1
   ·exact absurd (by simp [h2, h3]) h
theorem thereL_iff {l : List Deed} {d : Deed} : thereL id l d = true ↔ ∃ y ∈ l, sameF y d = true := by
 unfold thereL; rw [List.any_eq_true]; rfl
theorem left_snoc_ind {P : List Deed → Prop} (h0 : P []) (h1 : ∀ l d, P l → P (l ++ [d])) : ∀ l, P l := by
 intro l
 induction hl : l.length generalizing l with
 | zero => rw [List.length_eq_zero_iff.1 hl]; exact h0
 | succ n ih =>
  rcases List.eq_nil_or_concat l with rfl | ⟨m, y, rfl⟩
  ·exact h0
  ·rw [List.concat_eq_append] at *
   exact h1 m y (ih m (by simpa using hl))
theorem left_mem {ks : List Int} : ∀ (l : List Deed), ∀ y ∈ leftD ks l, y ∈ l ∧ fineD ks y = true := by
 apply left_snoc_ind
 ·intro y hy; exact absurd hy (by simp [leftD, leftL])
 ·intro l d ih y hy
  rw [foldL_snoc] at hy
  rcases stepL_mem.1 hy with h | ⟨rfl, h, -⟩
  ·exact ⟨List.mem_append_left _ (ih y h).1, (ih y h).2⟩
  ·exact ⟨by simp, h⟩
theorem left_has {ks : List Int} : ∀ (l : List Deed), ∀ y ∈ l, fineD ks y = true → ∃ z ∈ leftD ks l, sameF z y = true := by
 apply left_snoc_ind
 ·intro y hy; simp at hy
 ·intro l d ih y hy hf
  rw [foldL_snoc]
  rcases List.mem_append.1 hy with h | h
  ·obtain ⟨z, hz, hs⟩ := ih y h hf
   exact ⟨z, stepL_mem.2 (.inl hz), hs⟩
  ·rw [List.mem_singleton] at h
   subst h
   cases ht : thereL id (leftD ks l) y with
   | true =>
    obtain ⟨z, hz, hs⟩ := thereL_iff.1 ht
    exact ⟨z, stepL_mem.2 (.inl hz), hs⟩
   | false => exact ⟨y, stepL_mem.2 (.inr ⟨rfl, hf, ht⟩), sameF_refl y⟩
theorem left_apart {ks : List Int} : ∀ (l : List Deed), (leftD ks l).Pairwise fun a b => sameF a b = false := by
 apply left_snoc_ind
 ·exact List.Pairwise.nil
 ·intro l d ih
  rw [foldL_snoc]
  unfold stepL
  simp only [id]
  split
  ·rename_i h
   simp only [Bool.and_eq_true, Bool.not_eq_true'] at h
   rw [List.pairwise_append]
   refine ⟨ih, List.pairwise_singleton _ _, fun a ha b hb => ?_⟩
   rw [List.mem_singleton] at hb
   subst hb
   cases e : sameF a b with
   | false => rfl
   | true =>
    have := thereL_iff.2 ⟨a, ha, e⟩
    rw [this] at h; cases h.2
  ·exact ih
/-! ### Order -/
theorem befD_iff {a b : Deed} : befD a b = true ↔ a.at_ < b.at_ ∨ (a.at_ = b.at_ ∧ (a.person < b.person ∨ (a.person = b.person ∧ a.no < b.no))) := by
 unfold befD
 split
 ·split
  ·rw [decide_eq_true_eq]; omega
  ·rw [decide_eq_true_eq]; omega
 ·rw [decide_eq_true_eq]; omega
theorem befD_trans {a b c : Deed} (h : befD a b = true) (h' : befD b c = true) : befD a c = true := by
 rw [befD_iff] at *; omega
theorem befD_irrefl (a : Deed) : befD a a = false := by
 cases h : befD a a with
 | false => rfl
 | true => rw [befD_iff] at h; omega
theorem befD_asymm {a b : Deed} (h : befD a b = true) : befD b a = false := by
 cases h' : befD b a with
 | false => rfl
 | true => rw [befD_iff] at *; omega
def placeEq (a b : Deed) : Prop := a.person = b.person ∧ a.no = b.no
theorem befD_total {a b : Deed} (h : ¬ placeEq a b) (h' : befD a b = false) : befD b a = true := by
 cases h2 : befD b a with
 | true => rfl
 | false =>
  have h3 : ¬ befD a b = true := by rw [h']; simp
  have h4 : ¬ befD b a = true := by rw [h2]; simp
  rw [befD_iff] at h3 h4
  exact absurd ⟨by omega, by omega⟩ h
/-- No two at one place. -/
def Apart (l : List Deed) : Prop := l.Pairwise fun a b => ¬ placeEq a b
theorem Apart.uniq {l : List Deed} (h : Apart l) {a b : Deed} (ha : a ∈ l) (hb : b ∈ l) (he : placeEq a b) : a = b := by
 induction h with
 | nil => simp at ha
 | cons h1 _ ih =>
  rcases List.mem_cons.1 ha with ea | ea <;> rcases List.mem_cons.1 hb with eb | eb
  ·exact ea.trans eb.symm
  ·exact absurd (ea ▸ he) (h1 _ eb)
  ·exact absurd (show placeEq _ _ from eb ▸ ⟨he.1.symm, he.2.symm⟩) (h1 _ ea)
  ·exact ih ea eb
theorem sorted_eq : ∀ {a b : List Deed}, a.Perm b → a.Pairwise (fun x y => befD x y = true) → b.Pairwise (fun x y => befD x y = true) → a = b
 | [], b, hp, _, _ => (List.nil_perm.1 hp).symm
 | x :: a, [], hp, _, _ => absurd hp (by simp)
 | x :: a, y :: b, hp, ha, hb => by
  have hxy : x = y := by
   have h1 : x ∈ y :: b := hp.subset List.mem_cons_self
   have h2 : y ∈ x :: a := hp.symm.subset List.mem_cons_self
   rcases List.mem_cons.1 h1 with h1 | h1
   ·exact h1
   ·rcases List.mem_cons.1 h2 with h2 | h2
    ·exact h2.symm
    ·have h3 := (List.pairwise_cons.1 ha).1 y h2
     have h4 := (List.pairwise_cons.1 hb).1 x h1
     rw [befD_asymm h3] at h4; cases h4
  subst hxy
  rw [sorted_eq (List.Perm.cons_inv hp) (List.pairwise_cons.1 ha).2 (List.pairwise_cons.1 hb).2]
theorem insD_perm (out : List Deed) (d : Deed) : (insD out d).Perm (d :: out) := by
 unfold insD
 refine List.perm_middle.trans ?_
 rw [List.takeWhile_append_dropWhile]
theorem takeW_all {p : Deed → Bool} : ∀ {l : List Deed}, ∀ y ∈ l.takeWhile p, p y = true
 | [], y, h => by simp at h
 | x :: l, y, h => by
  rw [List.takeWhile_cons] at h
  split at h
  ·rename_i hx
   rcases List.mem_cons.1 h with rfl | h
   ·exact hx
   ·exact takeW_all y h
  ·simp at h
theorem dropW_sorted {d : Deed} : ∀ {l : List Deed}, l.Pairwise (fun x y => befD x y = true) → (∀ y ∈ l, ¬ placeEq y d) → ∀ y ∈ l.dropWhile (fun y => befD y d), befD d y = true
 | [], _, _, y, h => by simp at h
 | x :: l, hs, hn, y, h => by
  rw [List.dropWhile_cons] at h
  split at h
  ·exact dropW_sorted (List.pairwise_cons.1 hs).2 (fun y hy => hn y (List.mem_cons_of_mem _ hy)) y h
  ·rename_i hx
   have h1 : befD d x = true := befD_total (hn x List.mem_cons_self) (by simpa using hx)
   rcases List.mem_cons.1 h with rfl | h
   ·exact h1
   ·exact befD_trans h1 ((List.pairwise_cons.1 hs).1 y h)
theorem insD_sorted {out : List Deed} {d : Deed} (hs : out.Pairwise (fun x y => befD x y = true)) (hn : ∀ y ∈ out, ¬ placeEq y d) : (insD out d).Pairwise (fun x y => befD x y = true) := by
 unfold insD
 have h1 : out.takeWhile (fun y => befD y d) ++ out.dropWhile (fun y => befD y d) = out := List.takeWhile_append_dropWhile
 have h2 : (out.takeWhile (fun y => befD y d) ++ out.dropWhile (fun y => befD y d)).Pairwise (fun x y => befD x y = true) := by rw [h1]; exact hs
 rw [List.pairwise_append] at h2 ⊢
 obtain ⟨h3, h4, h5⟩ := h2
 have h6 := dropW_sorted hs hn
 refine ⟨h3, List.pairwise_cons.2 ⟨h6, h4⟩, fun a ha b hb => ?_⟩
 have h7 : befD a d = true := takeW_all a ha
 rcases List.mem_cons.1 hb with rfl | hb
 ·exact h7
 ·exact h5 a ha b hb
theorem sort_go : ∀ (l out : List Deed), out.Pairwise (fun x y => befD x y = true) → Apart (out ++ l) → (l.foldl insD out).Perm (out ++ l) ∧ (l.foldl insD out).Pairwise (fun x y => befD x y = true)
 | [], out, hs, _ => by simpa using hs
 | d :: l, out, hs, ha => by
  have hn : ∀ y ∈ out, ¬ placeEq y d := fun y hy => (List.pairwise_append.1 ha).2.2 y hy d List.mem_cons_self
  have hp : (insD out d ++ l).Perm (out ++ d :: l) := ((insD_perm out d).append_right l).trans (by rw [List.cons_append]; exact List.perm_middle.symm)
  have ha' : Apart (insD out d ++ l) := List.Pairwise.perm ha hp.symm (fun h e => h ⟨e.1.symm, e.2.symm⟩)
  obtain ⟨h1, h2⟩ := sort_go l (insD out d) (insD_sorted hs hn) ha'
  exact ⟨h1.trans hp, h2⟩
theorem sortD_spec {l : List Deed} (h : Apart l) : (sortD l).Perm l ∧ (sortD l).Pairwise (fun x y => befD x y = true) := by
 exact sort_go l [] List.Pairwise.nil h
/-- Whatever sorts them: by an order that is not less. -/
theorem sort_uniq {l s : List Deed} (h : Apart l) (hp : s.Perm l) (hs : s.Pairwise fun a b => ¬ befD b a = true) : s = sortD l := by
 obtain ⟨h1, h2⟩ := sortD_spec h
 refine sorted_eq (hp.trans h1.symm) ?_ h2
 have ha : Apart s := List.Pairwise.perm h hp.symm (fun h e => h ⟨e.1.symm, e.2.symm⟩)
 refine List.Pairwise.imp₂ (fun a b h3 h4 => ?_) hs ha
 exact befD_total (fun e => h4 ⟨e.1.symm, e.2.symm⟩) (by simpa using h3)
/-! ### Forks -/
theorem two_le {l : List Deed} (h : l.Pairwise fun a b => sameF a b = false) : 2 ≤ l.length ↔ ∃ a ∈ l, ∃ b ∈ l, sameF a b = false := by
 constructor
 ·intro h2
  obtain ⟨a, b, r, rfl⟩ : ∃ a b r, l = a :: b :: r := by
   rcases l with _ | ⟨a, _ | ⟨b, r⟩⟩
   ·simp at h2
   ·simp at h2
   ·exact ⟨a, b, r, rfl⟩
  exact ⟨a, by simp, b, by simp, (List.pairwise_cons.1 h).1 b (by simp)⟩
 ·rintro ⟨a, ha, b, hb, he⟩
  rcases l with _ | ⟨x, _ | ⟨y, r⟩⟩
  ·simp at ha
  ·simp at ha hb
   subst ha; subst hb
   rw [sameF_refl] at he; cases he
  ·simp
theorem at_mem {l : List Deed} {p n : Int} {y : Deed} : y ∈ atL id l p n ↔ y ∈ l ∧ y.person = p ∧ y.no = n := by
 unfold atL
 rw [List.mem_filter, decide_eq_true_eq]; rfl
theorem forkD_none {l : List Deed} {p : Int} (h : forkD l p = none) : ∀ n : Nat, n < 4096 → (atL id l p (n : Int)).length < 2 := by
 intro n hn
 unfold forkD forkL at h
 have := List.find?_eq_none.1 h n (List.mem_range.2 hn)
 simpa using this
theorem forkD_some {l : List Deed} {p : Int} {n : Nat} (h : forkD l p = some n) : n < 4096 ∧ 2 ≤ (atL id l p (n : Int)).length ∧ ∀ m : Nat, m < n → (atL id l p (m : Int)).length < 2 := by
 unfold forkD forkL at h
 have h1 := List.find?_some h
 have h2 := List.mem_of_find?_eq_some h
 refine ⟨List.mem_range.1 h2, by simpa using h1, fun m hm => ?_⟩
 obtain ⟨-, la, lb, h3, h4⟩ := List.find?_eq_some_iff_append.1 h
 have hlen : la.length = n := by
  have h5 := congrArg (·[la.length]?) h3
  simp only [List.getElem?_append_right (Nat.le_refl _), Nat.sub_self, List.getElem?_cons_zero] at h5
  rw [List.getElem?_eq_some_iff] at h5
  obtain ⟨h6, h7⟩ := h5
  simpa using h7
 have : m ∈ la := by
  have h5 := congrArg (·[m]?) h3
  have h6 : m < 4096 := by have := List.mem_range.1 h2; omega
  simp only [List.getElem?_range h6] at h5
  rw [List.getElem?_append_left (by omega)] at h5
  exact List.mem_of_getElem? h5.symm
 have := h4 m this
 simpa using this
theorem forkD_of {l : List Deed} {p : Int} {n : Nat} (hn : n < 4096) (h2 : 2 ≤ (atL id l p (n : Int)).length) (h3 : ∀ m : Nat, m < n → (atL id l p (m : Int)).length < 2) : forkD l p = some n := by
 cases h : forkD l p with
 | none => have := forkD_none h n hn; omega
 | some m =>
  obtain ⟨h4, h5, h6⟩ := forkD_some h
  rcases Nat.lt_trichotomy m n with h7 | h7 | h7
  ·have := h3 m h7; omega
  ·rw [h7]
  ·have := h6 n h7; omega
/-- Formed deeds that are apart as texts. -/
structure Lft (l : List Deed) : Prop where
 form : ∀ y ∈ l, formedD y = true
 ap : l.Pairwise fun a b => sameF a b = false
theorem left_lft (ks : List Int) (l : List Deed) : Lft (leftD ks l) := ⟨fun y hy => (fineD_inv (left_mem l y hy).2).1, left_apart l⟩
theorem at_apart {l : List Deed} (h : Lft l) (p n : Int) : (atL id l p n).Pairwise fun a b => sameF a b = false := h.ap.sublist List.filter_sublist
theorem taken_mem {l : List Deed} {y : Deed} : y ∈ takenD l ↔ y ∈ l ∧ ∀ n, forkD l y.person = some n → y.no < (n : Int) := by
 unfold takenD takenL keptL
 rw [List.mem_filter]
 simp only [id]
 constructor
 ·rintro ⟨h1, h2⟩
  refine ⟨h1, fun n hn => ?_⟩
  have hn' : forkL id l y.person = some n := hn
  rw [hn'] at h2
  simpa using h2
 ·rintro ⟨h1, h2⟩
  refine ⟨h1, ?_⟩
  split
  ·rfl
  ·rename_i n hn
   exact decide_eq_true (h2 n hn)
theorem same_place {l : List Deed} (h : Lft l) {a b : Deed} (ha : a ∈ l) (hb : b ∈ l) (hp : placeEq a b) (hs : sameF a b = false) : ∃ n, forkD l a.person = some n ∧ (n : Int) ≤ a.no := by
 obtain ⟨⟨h1, h2, h3, h4, -⟩, -⟩ := formedD_inv (h.form a ha)
 have h5 : 2 ≤ (atL id l a.person ((a.no.toNat : Nat) : Int)).length := by
  refine (two_le (at_apart h _ _)).2 ⟨a, at_mem.2 ⟨ha, rfl, by omega⟩, b, at_mem.2 ⟨hb, hp.1.symm, by have := hp.2; omega⟩, hs⟩
 cases hf : forkD l a.person with
 | none => have := forkD_none hf a.no.toNat (by omega); omega
 | some n =>
  refine ⟨n, rfl, ?_⟩
  obtain ⟨-, -, h6⟩ := forkD_some hf
  rcases Nat.lt_or_ge a.no.toNat n with h7 | h7
  ·have := h6 _ h7; omega
  ·omega
theorem taken_apart {l : List Deed} (h : Lft l) : Apart (takenD l) := by
 have h1 : (takenD l).Pairwise fun a b => sameF a b = false := h.ap.sublist List.filter_sublist
 have h2 := List.Pairwise.and_mem.1 h1
 refine List.Pairwise.imp ?_ h2
 rintro a b ⟨ha, hb, hs⟩ hp
 have ha' := taken_mem.1 ha
 have hb' := taken_mem.1 hb
 obtain ⟨n, hn, hle⟩ := same_place h ha'.1 hb'.1 hp hs
 have := ha'.2 n hn
 omega
/-! ### One pass -/
theorem pass_snoc (ks : List Int) (l : List Deed) (d : Deed) : passL id ks (l ++ [d]) = if stepD ks (passL id ks l) d then passL id ks l ++ [d] else passL id ks l := by
 unfold passL
 rw [List.foldl_append]
 simp only [List.foldl_cons, List.foldl_nil, List.map_id, id]
theorem pass_log (ks : List Int) : ∀ l : List Deed, logD ks (passL id ks l) = true := by
 apply left_snoc_ind
 ·rfl
 ·intro l d ih
  rw [pass_snoc]
  split
  ·rename_i h; exact logD_snoc ih h
  ·exact ih
theorem pass_sub (ks : List Int) : ∀ l : List Deed, (passL id ks l).Sublist l := by
 apply left_snoc_ind
 ·exact List.Sublist.refl _
 ·intro l d ih
  rw [pass_snoc]
  split
  ·exact ih.append (List.Sublist.refl _)
  ·exact ih.trans (List.sublist_append_left _ _)
end Go.Mer
end
section
/- Two signatures are compared. -/
set_option maxRecDepth 4000
namespace Go.Rn
variable {P : Program} {w : World} {env : Env} {dst : Option Tmp} {ty : TypeId} {pos : String} {after : Array Edge} {guard : Option (Nat × Bool)}
/-- A struct of two integers. -/
structure TwoInts (P : Program) (t ti : TypeId) : Prop where
 und : P.underlying t = some (.struct (P.fieldsOf t))
 fields : (P.fieldsOf t).toList.map (fun f => ((f.name == "_"), f.type, f.offset)) = [(false, ti, 0), (false, ti, 1)]
 held : P.stoodInHeld t = false
 guard : P.eqGuardType P.depth t = false
 int : P.underlying ti = some (.int .i64)
 cells : cellsAgg P ti = some (1, false)
theorem TwoInts.run {t ti : TypeId} (h : TwoInts P t ti) (a b c d : Int) :
  (Op.equalIn 10000 t (.agg #[.int .i64 a, .int .i64 b]) (.agg #[.int .i64 c, .int .i64 d])).run P w = .ok (a == c && b == d) w := by
 rw [show (10000 : Nat) = 9999 + 1 from rfl, run_equalIn_struct w 9999 _ _ _ h.und h.held]
 have hf := h.fields
 generalize (P.fieldsOf t).toList = fs at hf
 obtain ⟨f0, f1, rfl⟩ : ∃ f0 f1, fs = [f0, f1] := by
  rcases fs with _ | ⟨f0, _ | ⟨f1, _ | ⟨f2, r⟩⟩⟩
  ·simp at hf
  ·simp at hf
  ·exact ⟨f0, f1, rfl⟩
  ·simp at hf
 simp only [List.map_cons, List.map_nil, List.cons.injEq, Prod.mk.injEq, and_true] at hf
 obtain ⟨⟨n0, t0, o0⟩, n1, t1, o1⟩ := hf
 have n0' : f0.name ≠ "_" := by simpa using n0
 have n1' : f1.name ≠ "_" := by simpa using n1
 have p : ∀ (off : Nat) (cs : Array Value) (v : Value), cs.toList[off]? = some v → (part ti cs off).run P w = .ok v w := fun off cs v hv => run_part h.cells cs off (by simpa using hv)
 have e : ∀ a b : Int, (Op.equalIn 9999 ti (.int .i64 a) (.int .i64 b)).run P w = .ok (a == b) w := fun a b => run_equalIn_int w 9998 ti .i64 .i64 a b h.int
 simp only [Op.eqFields, n0', n1', ne_eq, not_false_eq_true, if_true, t0, o0, t1, o1]
 rw [run_bind _ _ (p 0 _ (.int .i64 a) rfl), run_bind _ _ (p 0 _ (.int .i64 c) rfl), run_bind _ _ (e a c)]
 cases hac : (a == c) with
 | false => rfl
 | true =>
  simp only [Bool.not_true, Bool.false_eq_true, if_false]
  rw [run_bind _ _ (p 1 _ (.int .i64 b) rfl), run_bind _ _ (p 1 _ (.int .i64 d) rfl), run_bind _ _ (e b d)]
  cases hbd : (b == d) <;> rfl
theorem OpV.eqTwo {t ti u : TypeId} (h : TwoInts P t ti) {x y : Operand} {a b c d : Int} (hx : evO env x = some (.agg #[.int .i64 a, .int .i64 b])) (hy : evO env y = some (.agg #[.int .i64 c, .int .i64 d])) :
  OpV P env w ⟨dst, .binOp .eql t x y u, ty, pos, after, guard⟩ (.bool (a == c && b == d)) := .of_run fun ρ hρ => by
 refine ⟨_, by simp only [execOp, hρ _ _ hx, hρ _ _ hy]; rfl, ?_⟩
 rw [run_bind _ _ (run_eqGuard_agg w .eql t x y _ _ h.guard), run_eql_struct, h.run]; rfl
end Go.Rn
namespace Go.Sg
open Go.Rn Go.Proofs
theorem sigTwo : TwoInts Tryz.prog 36 3 := ⟨by kernel_rfl, by kernel_rfl, by kernel_rfl, by kernel_rfl, by kernel_rfl, by kernel_rfl⟩
end Go.Sg
end
section
/- Deeds, the reference: Less, Formed, Keys, Before, equality, size. -/
set_option maxRecDepth 4000
namespace Go.Dee
open Go.Rn Go.RowKit Go.Rec Go.Sha Go.Sg
theorem digC_at {x : Dg} {i : Nat} (h : i < 32) : (digC x)[0 + i * 1]? = some (cB x i) := by
 rw [Nat.zero_add, Nat.mul_one, digC_eq, bytesV_get (by rw [x.2]; exact h)]; rfl
theorem lessL_step {a b : List UInt8} {i : Nat} (ha : i < a.length) (hb : i < b.length) : lessL (a.drop i) (b.drop i) = if a.getD i 0 = b.getD i 0 then lessL (a.drop (i + 1)) (b.drop (i + 1)) else decide ((a.getD i 0).toNat < (b.getD i 0).toNat) := by
 rw [List.drop_eq_getElem_cons ha, List.drop_eq_getElem_cons hb, List.getD_eq_getElem?_getD, List.getD_eq_getElem?_getD, List.getElem?_eq_getElem ha, List.getElem?_eq_getElem hb]
 rfl
theorem lessL_end {a b : List UInt8} {i : Nat} (ha : a.length ≤ i) : lessL (a.drop i) (b.drop i) = false := by
 rw [List.drop_eq_nil_of_le ha]
 cases b.drop i <;> rfl
theorem str_toList (l : List UInt8) : (strOf l).toList = l := ByteArray.toList_mk l
def fewD (d : Deed) : Bool := decide (d.seen.length ≤ 70 ∧ d.data.length ≤ 1000)
end Go.Dee
namespace Go.Sg
open Go.Rn Go.Proofs Go.Dee Go.Rec Go.RowKit Go.Sha Go.Cod Go.NT
attribute [local irreducible] Go.Rn.RetsX Go.Rn.RunLN Go.Rn.AsyN Go.Rn.RunL Go.Rn.RunE Go.Rn.Asy Go.Rn.OpV Go.Rn.OpE Go.Rn.ExecE
set_option maxRecDepth 4000 in
theorem rless_ok (x y : Dg) (w : World) : Rets Tryz.prog 96 [.agg (digC x).toArray, .agg (digC y).toArray] w fun r w' => r = .bool (lessG x y) ∧ Ext w w' := by
 refine RetsX.of (nt := 24) Tryz.func96 (by kernel_rfl) rfl rfl (by simp) (by simp only [argEnv]; rfl) ?_
 have X := ExtB.refl (fun _ => False) w
 repeat' (first | refine ZzQ ?_ | refine ZzR ?_)
 refine RunL.box rfl rfl rfl fun B2 w2_ a_ => ?_
 have Z2 : Blk w2_ B2 (digC x) 32 := a_.at_
 have gB2 := a_.ge X
 replace X := X.trans a_.ext
 clear a_
 skip
 refine RunL.box rfl rfl rfl fun B3 w3_ a_ => ?_
 have Z3 : Blk w3_ B3 (digC y) 32 := a_.at_
 have gB3 := a_.ge X
 have n2_3 : B2 ≠ B3 := by have := Z2.lt; have := a_.eq; omega
 have n3_2 : B3 ≠ B2 := Ne.symm n2_3
 replace Z2 := Z2.up a_.ext
 replace X := X.trans a_.ext
 clear a_
 repeat' (first | with_reducible refine ZzG rfl ?_ | (with_reducible refine RunLN.chk ?_; refine RunLN.int (by (rfl)) ?_) | refine RunL.ev Tryz.tOk rfl rfl rfl ?_ | refine ZzQ ?_ | refine ZzR ?_ | refine ZzN ?_ | refine ZzB ?_)
 refine RunE.loop (ι := Nat) (fun s => [(0, .agg (digC x).toArray), (1, .agg (digC y).toArray), (2, .pointer (some ⟨B2, 0, none⟩)), (3, .pointer (some ⟨B3, 0, none⟩)), (4, .bool false), (5, .int .i64 (s : Int))])
  (fun s w' => s ≤ 32 ∧ lessL x.1 y.1 = lessL (x.1.drop s) (y.1.drop s) ∧ Ext w w' ∧ Blk w' B2 (digC x) 32 ∧ Blk w' B3 (digC y) 32) (fun s => 32 - s) 0 (by repeat (first | exact Sub.nil _ | refine Sub.cons rfl ?_)) ⟨Nat.zero_le _, rfl, X, Z2, Z3⟩ ?_
 clear X Z2 Z3
 rintro i w3 ⟨hi, hinc, X, Z2, Z3⟩ again
 by_cases hlt : i < 32
 ·rw [lessL_step (by rw [x.2]; exact hlt) (by rw [y.2]; exact hlt)] at hinc
  have hx := digC_at (x := x) hlt
  have hy := digC_at (x := y) hlt
  by_cases he : x.1.getD i 0 = y.1.getD i 0
  ·rw [if_pos he] at hinc
   have he' : cB y i = cB x i := by unfold cB; rw [he]
   rw [he'] at hy
   repeat' (first | (with_reducible refine RunLN.decT ?_ ?_; focus omega) | (with_reducible refine RunLN.chk ?_; refine RunLN.int (by (rfl)) ?_) | refine RunL.ev Tryz.tOk rfl rfl rfl ?_ | refine ZzT rfl rfl ?_ | refine ZzQ ?_ | refine ZzR ?_ | refine ZzN ?_ | refine ZzB ?_ | refine ZzK ?_)
   refine RunE.draw (fun _ => False) mix ?_
   intro wd_ Xd_
   repeat' (first | with_reducible refine AsyN.neF rfl ?_ | (with_reducible refine AsyN.chk ?_; refine AsyN.int (by (rfl)) ?_) | refine AsyN.any ?_ | refine Asy.ev Tryz.tOk rfl rfl rfl ?_ | refine Asy.evV rfl rfl rfl rfl (fun _ X_ => (OpV.indexA Tryz.tOk i rfl rfl rfl rfl hlt)) ?_ | refine Asy.evV rfl rfl rfl rfl (fun _ X_ => (OpV.load1 Tryz.tOk rfl rfl rfl (Blk.cell (Z2.up (Xd_.trans X_)) hx))) ?_ | refine Asy.evV rfl rfl rfl rfl (fun _ X_ => (OpV.load1 Tryz.tOk rfl rfl rfl (Blk.cell (Z3.up (Xd_.trans X_)) hy))) ?_)
   refine Asy.end_ (by kernel_rfl) ?_
   intro we_ Xe_
   replace X := X.trans (Xd_.trans Xe_)
   replace Z2 := Z2.up (Xd_.trans Xe_)
   replace Z3 := Z3.up (Xd_.trans Xe_)
   clear Xd_ Xe_
   repeat' (first | (with_reducible refine RunLN.chk ?_; refine RunLN.int (by (first | (refine wr_i64 ?_ ?_; omega; omega) | rfl)) ?_) | refine RunL.ev Tryz.tOk rfl rfl rfl ?_ | refine ZzF rfl rfl ?_ | refine ZzR ?_ | refine ZzN ?_ | refine ZzI ?_ | refine ZzK ?_)
   exact RunE.weaken (by repeat (first | exact Sub.nil _ | refine Sub.cons rfl ?_)) (again (i + 1) _ (by omega) ⟨by omega, hinc, X, Z2, Z3⟩)
  ·rw [if_neg he] at hinc
   have he1 : ((x.1.getD i 0).toNat : Int) ≠ ((y.1.getD i 0).toNat : Int) := fun h => he (UInt8.toNat_inj.1 (by omega))
   have hr : lessG x y = decide (((x.1.getD i 0).toNat : Int) < ((y.1.getD i 0).toNat : Int)) := by
    unfold lessG
    rw [hinc, Bool.eq_iff_iff, decide_eq_true_eq, decide_eq_true_eq]; omega
   repeat' (first | (with_reducible refine RunLN.decT ?_ ?_; focus omega) | (with_reducible refine RunLN.chk ?_; refine RunLN.int (by (rfl)) ?_) | refine RunL.ev Tryz.tOk rfl rfl rfl ?_ | refine ZzT rfl rfl ?_ | refine ZzQ ?_ | refine ZzR ?_ | refine ZzN ?_ | refine ZzB ?_ | refine ZzK ?_)
   refine RunE.draw (fun _ => False) mix ?_
   intro wd_ Xd_
   repeat' (first | (with_reducible refine AsyN.neT ?_ ?_; focus omega) | (with_reducible refine AsyN.chk ?_; refine AsyN.int (by (rfl)) ?_) | refine AsyN.any ?_ | refine Asy.ev Tryz.tOk rfl rfl rfl ?_ | refine Asy.evV rfl rfl rfl rfl (fun _ X_ => (OpV.indexA Tryz.tOk i rfl rfl rfl rfl hlt)) ?_ | refine Asy.evV rfl rfl rfl rfl (fun _ X_ => (OpV.load1 Tryz.tOk rfl rfl rfl (Blk.cell (Z2.up (Xd_.trans X_)) hx))) ?_ | refine Asy.evV rfl rfl rfl rfl (fun _ X_ => (OpV.load1 Tryz.tOk rfl rfl rfl (Blk.cell (Z3.up (Xd_.trans X_)) hy))) ?_)
   refine Asy.end_ (by kernel_rfl) ?_
   intro we_ Xe_
   replace X := X.trans (Xd_.trans Xe_)
   replace Z2 := Z2.up (Xd_.trans Xe_)
   replace Z3 := Z3.up (Xd_.trans Xe_)
   clear Xd_ Xe_
   repeat' (first | refine ZzT rfl rfl ?_ | refine ZzQ ?_ | refine ZzN ?_)
   refine RunE.draw (fun _ => False) mix ?_
   intro wd_ Xd_
   repeat' (first | (with_reducible refine AsyN.chk ?_; refine AsyN.int (by (rfl)) ?_) | refine AsyN.any ?_ | refine Asy.ev Tryz.tOk rfl rfl rfl ?_ | refine Asy.evV rfl rfl rfl rfl (fun _ X_ => (OpV.indexA Tryz.tOk i rfl rfl rfl rfl hlt)) ?_ | refine Asy.evV rfl rfl rfl rfl (fun _ X_ => (OpV.load1 Tryz.tOk rfl rfl rfl (Blk.cell (Z2.up (Xd_.trans X_)) hx))) ?_ | refine Asy.evV rfl rfl rfl rfl (fun _ X_ => (OpV.load1 Tryz.tOk rfl rfl rfl (Blk.cell (Z3.up (Xd_.trans X_)) hy))) ?_)
   refine Asy.end_ (by kernel_rfl) ?_
   intro we_ Xe_
   replace X := X.trans (Xd_.trans Xe_)
   clear Xd_ Xe_
   repeat' (first | refine ZzN ?_)
   exact RunE.retFn Tryz.func96 (.tmp rfl .nil) ⟨by rw [hr]; rfl, X⟩
 ·obtain rfl : i = 32 := by omega
  have hr : lessG x y = false := by unfold lessG; rw [hinc]; exact lessL_end (by rw [x.2]; exact Nat.le_refl _)
  clear again
  repeat' (first | with_reducible refine ZzG rfl ?_ | (with_reducible refine RunLN.chk ?_; refine RunLN.int (by (rfl)) ?_) | refine RunL.ev Tryz.tOk rfl rfl rfl ?_ | refine ZzF rfl rfl ?_ | refine ZzQ ?_ | refine ZzR ?_ | refine ZzN ?_ | refine RunE.exit rfl ?_)
  exact RunE.retFn Tryz.func96 (.tmp rfl .nil) ⟨by rw [hr]; rfl, X⟩
set_option maxRecDepth 4000 in
set_option maxHeartbeats 4000000 in
theorem rformed_dd (d : Deed) (u v : Value) (w : World) (hs : LDg w u d.seen) (hb : LBy w v d.data) (hl : d.seen.length < 9223372036854775808) (hl' : d.data.length < 9223372036854775808) : Rets Tryz.prog 73 [.agg (dCells d u v).toArray] w fun r w' => r = .bool (formedD d) ∧ Ext w w' := by
 refine RetsX.of (nt := 73) Tryz.func73 (by kernel_rfl) rfl rfl (by simp) (by simp only [argEnv]; rfl) ?_
 have X := ExtB.refl (fun _ => False) w
 repeat' (first | refine ZzQ ?_ | refine ZzR ?_)
 refine RunL.box rfl rfl rfl fun B1 w1_ a_ => ?_
 have Z1 : Blk w1_ B1 (dCells d u v) 38 := a_.at_
 have gB1 := a_.ge X
 replace X := X.trans a_.ext
 clear a_
 cases hn : numsD d with
 | false =>
  have hr : formedD d = false := by unfold formedD; rw [hn]; rfl
  have hn' := of_decide_eq_false hn
  have : d.person < 0 ∨ (0 ≤ d.person ∧ 64 ≤ d.person) ∨ ((0 ≤ d.person ∧ d.person < 64) ∧ d.no < 0) ∨ ((0 ≤ d.person ∧ d.person < 64) ∧ 0 ≤ d.no ∧ 4096 ≤ d.no) ∨ ((0 ≤ d.person ∧ d.person < 64) ∧ (0 ≤ d.no ∧ d.no < 4096) ∧ d.at_ < 0) ∨ ((0 ≤ d.person ∧ d.person < 64) ∧ (0 ≤ d.no ∧ d.no < 4096) ∧ 0 ≤ d.at_ ∧ 1099511627776 ≤ d.at_) ∨ ((0 ≤ d.person ∧ d.person < 64) ∧ (0 ≤ d.no ∧ d.no < 4096) ∧ (0 ≤ d.at_ ∧ d.at_ < 1099511627776) ∧ 64 < d.seen.length) ∨ ((0 ≤ d.person ∧ d.person < 64) ∧ (0 ≤ d.no ∧ d.no < 4096) ∧ (0 ≤ d.at_ ∧ d.at_ < 1099511627776) ∧ d.seen.length ≤ 64 ∧ 65536 < d.data.length) := by omega
  clear hn'
  rcases this with h | h | h | h | h | h | h | h
  all_goals
   repeat' (first | with_reducible refine ZzP rfl ?_ | with_reducible refine ZzG rfl ?_ | (with_reducible refine RunLN.decT ?_ ?_; focus omega) | (with_reducible refine RunLN.decF ?_ ?_; focus omega) | (with_reducible refine RunLN.chk ?_; refine RunLN.int (by (rfl)) ?_) | refine ZzA ?_ | refine RunL.ev Tryz.tOk rfl rfl rfl ?_ | refine RunL.unwantedD rfl rfl ?_ | refine RunL.evV rfl rfl rfl (OpV.load1 Tryz.tOk rfl rfl rfl (Blk.cell Z1 rfl)) ?_ | refine RunL.evV rfl rfl rfl (OpV.lenSl Tryz.tOk rfl rfl hs) ?_ | refine RunL.evV rfl rfl rfl (OpV.lenSl Tryz.tOk rfl rfl hb) ?_ | refine ZzT rfl rfl ?_ | refine ZzQ ?_ | refine ZzR ?_ | refine ZzN ?_)
   exact RunE.retFn Tryz.func73 (.tmp rfl .nil) ⟨by rw [hr]; rfl, X⟩
 | true =>
  obtain ⟨p0, p1, n0, n1, t0, t1, l0, l1⟩ := of_decide_eq_true hn
  repeat' (first | with_reducible refine ZzG rfl ?_ | (with_reducible refine RunLN.decF ?_ ?_; focus omega) | (with_reducible refine RunLN.chk ?_; refine RunLN.int (by (rfl)) ?_) | refine ZzA ?_ | refine RunL.ev Tryz.tOk rfl rfl rfl ?_ | refine RunL.evV rfl rfl rfl (OpV.load1 Tryz.tOk rfl rfl rfl (Blk.cell Z1 rfl)) ?_ | refine RunL.evV rfl rfl rfl (OpV.lenSl Tryz.tOk rfl rfl hs) ?_ | refine RunL.evV rfl rfl rfl (OpV.lenSl Tryz.tOk rfl rfl hb) ?_ | refine ZzF rfl rfl ?_ | refine ZzQ ?_ | refine ZzR ?_ | refine ZzN ?_ | refine ZzB ?_ | refine ZzK ?_)
  refine RunE.loop (ι := Nat) (fun s => [(0, .agg (dCells d u v).toArray), (1, .pointer (some ⟨B1, 0, none⟩)), (2, .bool false), (3, .int .i64 ((s : Int) + 1))])
   (fun s w' => (s < d.seen.length ∨ s = 0) ∧ incG d.seen = incG (d.seen.drop s) ∧ Ext w w' ∧ Blk w' B1 (dCells d u v) 38) (fun s => d.seen.length - s) 0 (by repeat (first | exact Sub.nil _ | refine Sub.cons rfl ?_)) ⟨.inr rfl, rfl, X, Z1⟩ ?_
  clear X Z1
  rintro i w3 ⟨hi, hinc, X, Z1⟩ again
  by_cases hlt : i + 1 < d.seen.length
  ·obtain ⟨a, ha⟩ : ∃ a, d.seen[i]? = some a := ⟨_, List.getElem?_eq_getElem (by omega)⟩
   obtain ⟨b, hb'⟩ : ∃ b, d.seen[i + 1]? = some b := ⟨_, List.getElem?_eq_getElem hlt⟩
   rw [incG_drop ha hb'] at hinc
   obtain ⟨b1, o1, c1, rfl, hr1, -⟩ := isL_held hs hlt
   have hra := flat_row encG (hr1.up X) ha
   have hrb := flat_row encG (hr1.up X) hb'
   have cl := rless_ok a b
   repeat' (first | (with_reducible refine RunLN.decT ?_ ?_; focus omega) | (with_reducible refine RunLN.chk ?_; refine RunLN.int (by (rfl)) ?_) | refine ZzA ?_ | refine RunL.ev Tryz.tOk rfl rfl rfl ?_ | refine RunL.evV rfl rfl rfl (OpV.load1 Tryz.tOk rfl rfl rfl (Blk.cell Z1 rfl)) ?_ | refine ZzT rfl rfl ?_ | refine ZzQ ?_ | refine ZzR ?_ | refine ZzN ?_ | refine ZzB ?_ | refine ZzK ?_)
   refine RunE.draw (fun _ => False) mix ?_
   intro wd_ Xd_
   cases hc : lessG a b with
   | true =>
    rw [hc] at cl
    repeat' (first | with_reducible refine AsyN.boolT rfl ?_ | with_reducible refine AsyN.boolF rfl ?_ | (with_reducible refine AsyN.chk ?_; refine AsyN.int (by (first | (refine wr_i64 ?_ ?_; omega; omega) | rfl)) ?_) | refine AsyN.any ?_ | refine Asy.ev Tryz.tOk rfl rfl rfl ?_ | refine Asy.evV rfl rfl rfl rfl (fun _ X_ => OpV.load1 Tryz.tOk rfl rfl rfl (Blk.cell (Z1.up (Xd_.trans X_)) rfl)) ?_ | refine Asy.evV rfl rfl rfl rfl (fun _ X_ => OpV.indexS Tryz.tOk i rfl rfl rfl (by first | rfl | omega) (by omega)) ?_ | refine Asy.evV rfl rfl rfl rfl (fun _ X_ => OpV.indexS Tryz.tOk (i+1) rfl rfl rfl (by first | rfl | omega) (by omega)) ?_ | refine Asy.evV rfl rfl rfl rfl (fun _ X_ => OpV.loadN Tryz.tOk rfl rfl rfl rfl (hra.up (Xd_.trans X_))) ?_ | refine Asy.evV rfl rfl rfl rfl (fun _ X_ => OpV.loadN Tryz.tOk rfl rfl rfl rfl (hrb.up (Xd_.trans X_))) ?_ | refine Asy.callN rfl rfl rfl (fun _ X_ => (cl _)) ?_)
    refine Asy.end_ (by kernel_rfl) ?_
    intro we_ Xe_
    replace X := X.trans (Xd_.trans Xe_)
    replace Z1 := Z1.up (Xd_.trans Xe_)
    clear Xd_ Xe_
    repeat' (first | (with_reducible refine RunLN.chk ?_; refine RunLN.int (by (first | (refine wr_i64 ?_ ?_; omega; omega) | rfl)) ?_) | refine RunL.ev Tryz.tOk rfl rfl rfl ?_ | refine ZzF rfl rfl ?_ | refine ZzR ?_ | refine ZzN ?_ | refine ZzI ?_ | refine ZzK ?_)
    refine RunE.weaken (by repeat (first | exact Sub.nil _ | refine Sub.cons rfl ?_)) (again (i + 1) _ (by omega) ⟨.inl (by omega), by rw [hinc, hc, Bool.true_and], X, Z1⟩)
   | false =>
    rw [hc] at cl
    repeat' (first | with_reducible refine AsyN.boolT rfl ?_ | with_reducible refine AsyN.boolF rfl ?_ | (with_reducible refine AsyN.chk ?_; refine AsyN.int (by (first | (refine wr_i64 ?_ ?_; omega; omega) | rfl)) ?_) | refine AsyN.any ?_ | refine Asy.ev Tryz.tOk rfl rfl rfl ?_ | refine Asy.evV rfl rfl rfl rfl (fun _ X_ => OpV.load1 Tryz.tOk rfl rfl rfl (Blk.cell (Z1.up (Xd_.trans X_)) rfl)) ?_ | refine Asy.evV rfl rfl rfl rfl (fun _ X_ => OpV.indexS Tryz.tOk i rfl rfl rfl (by first | rfl | omega) (by omega)) ?_ | refine Asy.evV rfl rfl rfl rfl (fun _ X_ => OpV.indexS Tryz.tOk (i+1) rfl rfl rfl (by first | rfl | omega) (by omega)) ?_ | refine Asy.evV rfl rfl rfl rfl (fun _ X_ => OpV.loadN Tryz.tOk rfl rfl rfl rfl (hra.up (Xd_.trans X_))) ?_ | refine Asy.evV rfl rfl rfl rfl (fun _ X_ => OpV.loadN Tryz.tOk rfl rfl rfl rfl (hrb.up (Xd_.trans X_))) ?_ | refine Asy.callN rfl rfl rfl (fun _ X_ => (cl _)) ?_)
    refine Asy.end_ (by kernel_rfl) ?_
    intro we_ Xe_
    replace X := X.trans (Xd_.trans Xe_)
    clear Xd_ Xe_
    have hf : formedD d = false := by unfold formedD; rw [hinc, hc]; simp
    repeat' (first | with_reducible refine ZzG rfl ?_ | refine RunL.ev Tryz.tOk rfl rfl rfl ?_ | refine ZzT rfl rfl ?_ | refine ZzQ ?_ | refine ZzR ?_ | refine ZzN ?_)
    exact RunE.retFn Tryz.func73 (.tmp rfl .nil) ⟨by rw [hf]; rfl, X⟩
  ·rw [incG_end (by omega)] at hinc
   clear again
   have hr : formedD d = firstD d := by unfold formedD; rw [hn, hinc]; rfl
   by_cases hno : 0 < d.no
   ·have hf : firstD d = true := by unfold firstD; rw [decide_eq_true hno]; rfl
    repeat' (first | with_reducible refine ZzP rfl ?_ | (with_reducible refine RunLN.decT ?_ ?_; focus omega) | (with_reducible refine RunLN.decF ?_ ?_; focus omega) | (with_reducible refine RunLN.chk ?_; refine RunLN.int (by (rfl)) ?_) | refine ZzA ?_ | refine RunL.ev Tryz.tOk rfl rfl rfl ?_ | refine RunL.unwantedD rfl rfl ?_ | refine RunL.evV rfl rfl rfl (OpV.load1 Tryz.tOk rfl rfl rfl (Blk.cell Z1 rfl)) ?_ | refine RunL.evV rfl rfl rfl (OpV.lenSl Tryz.tOk rfl rfl hs) ?_ | refine ZzF rfl rfl ?_ | refine ZzQ ?_ | refine ZzR ?_ | refine ZzN ?_ | refine RunE.exit rfl ?_)
    exact RunE.retFn Tryz.func73 (.tmp rfl .nil) ⟨by rw [hr, hf]; rfl, X⟩
   ·have hf : firstD d = (d.prev == zeroG) := by unfold firstD; rw [decide_eq_false hno]; rfl
    repeat' (first | with_reducible refine ZzG rfl ?_ | (with_reducible refine RunLN.decF ?_ ?_; focus omega) | (with_reducible refine RunLN.chk ?_; refine RunLN.int (by (rfl)) ?_) | refine ZzA ?_ | refine RunL.ev Tryz.tOk rfl rfl rfl ?_ | refine RunL.evV rfl rfl rfl (OpV.load1 Tryz.tOk rfl rfl rfl (Blk.cell Z1 rfl)) ?_ | refine RunL.evV rfl rfl rfl (OpV.lenSl Tryz.tOk rfl rfl hs) ?_ | refine RunL.evV rfl rfl rfl (OpV.loadN Tryz.tOk rfl rfl rfl rfl (row_prev (Blk.row Z1))) ?_ | refine RunL.evV rfl rfl rfl ((OpV.eqDg (a := d.prev) (b := zeroG) bytesArr rfl rfl)) ?_ | refine ZzF rfl rfl ?_ | refine ZzQ ?_ | refine ZzR ?_ | refine ZzN ?_ | refine RunE.exit rfl ?_)
    exact RunE.retFn Tryz.func73 (.tmp rfl .nil) ⟨by rw [hr, hf]; rfl, X⟩
end Go.Sg
end
section
/- Deeds, the reference: Keys, Before, equality, size. -/
set_option maxRecDepth 4000
namespace Go.Dee
open Go.Rn Go.RowKit Go.Rec Go.Sha Go.Sg
theorem eqL_step {a b : List Dg} {i : Nat} {x y : Dg} (ha : a[i]? = some x) (hb : b[i]? = some y) : (a.drop i == b.drop i) = ((x == y) && (a.drop (i + 1) == b.drop (i + 1))) := by
 obtain ⟨h1, rfl⟩ := List.getElem?_eq_some_iff.1 ha
 obtain ⟨h2, rfl⟩ := List.getElem?_eq_some_iff.1 hb
 rw [List.drop_eq_getElem_cons h1, List.drop_eq_getElem_cons h2]
 rfl
end Go.Dee
namespace Go.Sg
open Go.Rn Go.Proofs Go.Dee Go.Rec Go.RowKit Go.Sha Go.Cod Go.NT
attribute [local irreducible] Go.Rn.RetsX Go.Rn.RunLN Go.Rn.AsyN Go.Rn.RunL Go.Rn.RunE Go.Rn.Asy Go.Rn.OpV Go.Rn.OpE Go.Rn.ExecE
theorem rkeys_ok (ks : List Int) (v : Value) (w : World) (hv : LIn w v ks) (hl : ks.length < 9223372036854775808) : Rets Tryz.prog 48 [v] w fun r w' => r = .bool (keysD ks) ∧ Ext w w' := by
 refine RetsX.of (nt := 26) Tryz.func48 (by kernel_rfl) rfl rfl (by simp) (by simp only [argEnv]; rfl) ?_
 have X := ExtB.refl (fun _ => False) w
 repeat' (first | with_reducible refine ZzG rfl ?_ | (with_reducible refine RunLN.chk ?_; refine RunLN.int (by (rfl)) ?_) | refine RunL.ev Tryz.tOk rfl rfl rfl ?_ | refine ZzQ ?_ | refine ZzR ?_ | refine ZzN ?_ | refine ZzB ?_)
 refine RunE.loop (ι := Nat) (fun s => [(0, v), (2, .bool false), (3, .int .i64 (s : Int))])
  (fun s w' => s ≤ ks.length ∧ ks.all (fun k => k == 0 || validS k) = (ks.drop s).all (fun k => k == 0 || validS k) ∧ w' = w) (fun s => ks.length - s) 0 (by repeat (first | exact Sub.nil _ | refine Sub.cons rfl ?_)) ⟨Nat.zero_le _, rfl, rfl⟩ ?_
 rintro i w3 ⟨hi, hall, hw3⟩ again
 subst hw3
 by_cases hlt : i < ks.length
 ·obtain ⟨b1, o1, c1, rfl, hr1, -⟩ := isL_held hv hlt
  obtain ⟨x, hx⟩ : ∃ x, ks[i]? = some x := ⟨_, List.getElem?_eq_getElem hlt⟩
  have hrx := flat_row encIn hr1 hx
  have hd : ks.drop i = x :: ks.drop (i + 1) := by
   obtain ⟨hi, e⟩ := List.getElem?_eq_some_iff.1 hx
   rw [← e, List.drop_eq_getElem_cons hi]
  rw [hd, List.all_cons] at hall
  by_cases h0 : x = 0
  ·have hq : (x == 0 || validS x) = true := by rw [h0]; rfl
   rw [hq, Bool.true_and] at hall
   repeat' (first | with_reducible refine ZzG rfl ?_ | (with_reducible refine RunLN.decT ?_ ?_; focus omega) | (with_reducible refine RunLN.neF ?_ ?_; focus omega) | (with_reducible refine RunLN.chk ?_; refine RunLN.int (by (first | (refine wr_i64 ?_ ?_; omega; omega) | rfl)) ?_) | refine ZzA ?_ | refine RunL.ev Tryz.tOk rfl rfl rfl ?_ | refine RunL.unwantedD rfl rfl ?_ | refine RunL.evV rfl rfl rfl (OpV.load1 Tryz.tOk rfl rfl rfl ((hrx.up X) 0 _ rfl)) ?_ | refine RunL.evV rfl rfl rfl (OpV.indexS Tryz.tOk _ rfl rfl rfl rfl (by omega)) ?_ | refine ZzT rfl rfl ?_ | refine ZzF rfl rfl ?_ | refine ZzQ ?_ | refine ZzR ?_ | refine ZzN ?_ | refine ZzB ?_ | refine ZzI ?_ | refine ZzK ?_)
   exact RunE.weaken (by repeat (first | exact Sub.nil _ | refine Sub.cons rfl ?_)) (again (i + 1) _ (by omega) ⟨by omega, hall, rfl⟩)
  ·have h0' : (x == 0) = false := by simpa using h0
   have cv := fun w => r10_valid_ok x w
   cases hvx : validS x with
   | true =>
    rw [h0', hvx] at hall
    simp only [hvx] at cv
    repeat' (first | with_reducible refine ZzP rfl ?_ | with_reducible refine ZzG rfl ?_ | (with_reducible refine RunLN.decT ?_ ?_; focus omega) | (with_reducible refine RunLN.neT ?_ ?_; focus omega) | (with_reducible refine RunLN.chk ?_; refine RunLN.int (by (first | (refine wr_i64 ?_ ?_; omega; omega) | rfl)) ?_) | refine ZzA ?_ | refine RunL.ev Tryz.tOk rfl rfl rfl ?_ | refine RunL.evV rfl rfl rfl (OpV.load1 Tryz.tOk rfl rfl rfl ((hrx.up X) 0 _ rfl)) ?_ | refine RunL.callN rfl rfl rfl (cv _) ?_ | refine RunL.evV rfl rfl rfl (OpV.indexS Tryz.tOk _ rfl rfl rfl rfl (by omega)) ?_ | refine ZzT rfl rfl ?_ | refine ZzF rfl rfl ?_ | refine ZzQ ?_ | refine ZzR ?_ | refine ZzN ?_ | refine ZzB ?_ | refine ZzI ?_ | refine ZzK ?_)
    exact RunE.weaken (by repeat (first | exact Sub.nil _ | refine Sub.cons rfl ?_)) (again (i + 1) _ (by omega) ⟨by omega, by rw [hall]; rfl, rfl⟩)
   | false =>
    rw [h0', hvx] at hall
    simp only [hvx] at cv
    repeat' (first | with_reducible refine ZzP rfl ?_ | with_reducible refine ZzG rfl ?_ | (with_reducible refine RunLN.decT ?_ ?_; focus omega) | (with_reducible refine RunLN.neT ?_ ?_; focus omega) | (with_reducible refine RunLN.chk ?_; refine RunLN.int (by (rfl)) ?_) | refine ZzA ?_ | refine RunL.ev Tryz.tOk rfl rfl rfl ?_ | refine RunL.evV rfl rfl rfl (OpV.load1 Tryz.tOk rfl rfl rfl ((hrx.up X) 0 _ rfl)) ?_ | refine RunL.callN rfl rfl rfl (cv _) ?_ | refine RunL.evV rfl rfl rfl (OpV.indexS Tryz.tOk _ rfl rfl rfl rfl (by omega)) ?_ | refine ZzT rfl rfl ?_ | refine ZzQ ?_ | refine ZzR ?_ | refine ZzN ?_ | refine ZzB ?_ | refine ZzK ?_)
    exact RunE.retFn Tryz.func48 (.tmp rfl .nil) ⟨by unfold keysD; rw [hall]; rfl, X⟩
 ·obtain rfl : i = ks.length := by omega
  rw [List.drop_length] at hall
  clear again
  have hk : keysD ks = decide ((ks.length : Int) ≤ 64) := by
   unfold keysD; rw [hall]
   rw [List.all_nil, Bool.true_and, Bool.eq_iff_iff, decide_eq_true_eq, decide_eq_true_eq]; omega
  repeat' (first | (with_reducible refine RunLN.decF ?_ ?_; focus omega) | (with_reducible refine RunLN.chk ?_; refine RunLN.int (by (rfl)) ?_) | refine ZzA ?_ | refine RunL.ev Tryz.tOk rfl rfl rfl ?_ | refine RunL.evV rfl rfl rfl (OpV.lenSl Tryz.tOk rfl rfl hv) ?_ | refine ZzF rfl rfl ?_ | refine ZzQ ?_ | refine ZzR ?_ | refine ZzN ?_ | refine RunE.exit rfl ?_)
  exact RunE.retFn Tryz.func48 (.tmp rfl .nil) ⟨by rw [hk]; rfl, X⟩
theorem rbefore_ok (a b : Deed) (u v u' v' : Value) (w : World) : Rets Tryz.prog 56 [.agg (dCells a u v).toArray, .agg (dCells b u' v').toArray] w fun r w' => r = .bool (befD a b) ∧ Ext w w' := by
 unfold befD
 refine RetsX.of (nt := 30) Tryz.func56 (by kernel_rfl) rfl rfl (by simp) (by simp only [argEnv]; rfl) ?_
 have X := ExtB.refl (fun _ => False) w
 repeat' (first | refine ZzQ ?_ | refine ZzR ?_)
 refine RunL.box rfl rfl rfl fun B2 w2_ a_ => ?_
 have Z2 : Blk w2_ B2 (dCells a u v) 38 := a_.at_
 have gB2 := a_.ge X
 replace X := X.trans a_.ext
 clear a_
 skip
 refine RunL.box rfl rfl rfl fun B3 w3_ a_ => ?_
 have Z3 : Blk w3_ B3 (dCells b u' v') 38 := a_.at_
 have gB3 := a_.ge X
 have n2_3 : B2 ≠ B3 := by have := Z2.lt; have := a_.eq; omega
 have n3_2 : B3 ≠ B2 := Ne.symm n2_3
 replace Z2 := Z2.up a_.ext
 replace X := X.trans a_.ext
 clear a_
 by_cases h1 : a.at_ = b.at_
 ·have q1 : (a.at_ != b.at_) = false := by simpa using h1
  rw [if_pos h1]
  by_cases h2 : a.person = b.person
  ·have q2 : (a.person != b.person) = false := by simpa using h2
   rw [if_pos h2]
   repeat' (first | with_reducible refine ZzG rfl ?_ | refine RunLN.boolF (by assumption) ?_ | (with_reducible refine RunLN.chk ?_; refine RunLN.int (by (rfl)) ?_) | refine ZzA ?_ | refine RunL.ev Tryz.tOk rfl rfl rfl ?_ | refine RunL.evV rfl rfl rfl (OpV.load1 Tryz.tOk rfl rfl rfl (Blk.cell Z2 rfl)) ?_ | refine RunL.evV rfl rfl rfl (OpV.load1 Tryz.tOk rfl rfl rfl (Blk.cell Z3 rfl)) ?_ | refine ZzF rfl rfl ?_ | refine ZzQ ?_ | refine ZzR ?_ | refine ZzN ?_ | refine ZzK ?_)
   exact RunE.retFn Tryz.func56 (.tmp rfl .nil) ⟨rfl, X⟩
  ·have q2 : (a.person != b.person) = true := by simpa using h2
   rw [if_neg h2]
   repeat' (first | with_reducible refine ZzG rfl ?_ | refine RunLN.boolT (by assumption) ?_ | refine RunLN.boolF (by assumption) ?_ | (with_reducible refine RunLN.chk ?_; refine RunLN.int (by (rfl)) ?_) | refine ZzA ?_ | refine RunL.ev Tryz.tOk rfl rfl rfl ?_ | refine RunL.evV rfl rfl rfl (OpV.load1 Tryz.tOk rfl rfl rfl (Blk.cell Z2 rfl)) ?_ | refine RunL.evV rfl rfl rfl (OpV.load1 Tryz.tOk rfl rfl rfl (Blk.cell Z3 rfl)) ?_ | refine ZzT rfl rfl ?_ | refine ZzF rfl rfl ?_ | refine ZzQ ?_ | refine ZzR ?_ | refine ZzN ?_ | refine ZzK ?_)
   exact RunE.retFn Tryz.func56 (.tmp rfl .nil) ⟨rfl, X⟩
 ·have q1 : (a.at_ != b.at_) = true := by simpa using h1
  rw [if_neg h1]
  repeat' (first | with_reducible refine ZzG rfl ?_ | refine RunLN.boolT (by assumption) ?_ | (with_reducible refine RunLN.chk ?_; refine RunLN.int (by (rfl)) ?_) | refine ZzA ?_ | refine RunL.ev Tryz.tOk rfl rfl rfl ?_ | refine RunL.evV rfl rfl rfl (OpV.load1 Tryz.tOk rfl rfl rfl (Blk.cell Z2 rfl)) ?_ | refine RunL.evV rfl rfl rfl (OpV.load1 Tryz.tOk rfl rfl rfl (Blk.cell Z3 rfl)) ?_ | refine ZzT rfl rfl ?_ | refine ZzQ ?_ | refine ZzR ?_ | refine ZzN ?_)
  exact RunE.retFn Tryz.func56 (.tmp rfl .nil) ⟨rfl, X⟩
set_option maxRecDepth 4000 in
theorem rsameDg_ok (a b : List Dg) (u u' : Value) (w : World) (ha : LDg w u a) (hb : LDg w u' b) (hl : a.length < 9223372036854775808) (hl' : b.length < 9223372036854775808) : Rets Tryz.prog 57 [u, u'] w fun r w' => r = .bool (a == b) ∧ Ext w w' := by
 by_cases hlen : a.length = b.length
 ·refine RetsX.of (nt := 26) Tryz.func57 (by kernel_rfl) rfl rfl (by simp) (by simp only [argEnv]; rfl) ?_
  have X := ExtB.refl (fun _ => False) w
  repeat' (first | with_reducible refine ZzG rfl ?_ | (with_reducible refine RunLN.neF ?_ ?_; focus omega) | (with_reducible refine RunLN.chk ?_; refine RunLN.int (by (rfl)) ?_) | refine ZzA ?_ | refine RunL.ev Tryz.tOk rfl rfl rfl ?_ | refine RunL.evV rfl rfl rfl (OpV.lenSl Tryz.tOk rfl rfl ha) ?_ | refine RunL.evV rfl rfl rfl (OpV.lenSl Tryz.tOk rfl rfl hb) ?_ | refine ZzF rfl rfl ?_ | refine ZzQ ?_ | refine ZzR ?_ | refine ZzN ?_ | refine ZzB ?_ | refine ZzK ?_)
  refine RunE.loop (ι := Nat) (fun s => [(0, u), (1, u'), (4, .bool false), (5, .int .i64 (s : Int))])
   (fun s w' => s ≤ a.length ∧ (a == b) = (a.drop s == b.drop s) ∧ Ext w w') (fun s => a.length - s) 0 (by repeat (first | exact Sub.nil _ | refine Sub.cons rfl ?_)) ⟨Nat.zero_le _, rfl, X⟩ ?_
  clear X
  rintro i w3 ⟨hi, heq, X⟩ again
  by_cases hlt : i < a.length
  ·obtain ⟨x, hx⟩ : ∃ x, a[i]? = some x := ⟨_, List.getElem?_eq_getElem hlt⟩
   obtain ⟨y, hy⟩ : ∃ y, b[i]? = some y := ⟨_, List.getElem?_eq_getElem (by omega)⟩
   rw [eqL_step hx hy] at heq
   obtain ⟨b1, o1, c1, rfl, hr1, -⟩ := isL_held ha hlt
   obtain ⟨b2, o2, c2, rfl, hr2, -⟩ := isL_held hb (show i < b.length by omega)
   have hrx := flat_row encG (hr1.up X) hx
   have hry := flat_row encG (hr2.up X) hy
   repeat' (first | (with_reducible refine RunLN.decT ?_ ?_; focus omega) | (with_reducible refine RunLN.chk ?_; refine RunLN.int (by (rfl)) ?_) | refine ZzA ?_ | refine RunL.ev Tryz.tOk rfl rfl rfl ?_ | refine ZzT rfl rfl ?_ | refine ZzQ ?_ | refine ZzR ?_ | refine ZzN ?_ | refine ZzB ?_ | refine ZzK ?_)
   refine RunE.draw (fun _ => False) mix ?_
   intro wd_ Xd_
   cases hxy : (x == y) with
   | true =>
    have hq : (!(x == y)) = false := by rw [hxy]; rfl
    rw [hxy, Bool.true_and] at heq
    repeat' (first | refine AsyN.boolF (by assumption) ?_ | (with_reducible refine AsyN.chk ?_; refine AsyN.int (by (rfl)) ?_) | refine AsyN.any ?_ | refine Asy.ev Tryz.tOk rfl rfl rfl ?_ | refine Asy.evV rfl rfl rfl rfl (fun _ X_ => OpV.indexS Tryz.tOk i rfl rfl rfl (by first | rfl | omega) (by omega)) ?_ | refine Asy.evV rfl rfl rfl rfl (fun _ X_ => OpV.loadN Tryz.tOk rfl rfl rfl rfl (hrx.up (Xd_.trans X_))) ?_ | refine Asy.evV rfl rfl rfl rfl (fun _ X_ => OpV.loadN Tryz.tOk rfl rfl rfl rfl (hry.up (Xd_.trans X_))) ?_ | refine Asy.evV rfl rfl rfl rfl (fun _ X_ => (OpV.neDg (a := x) (b := y) bytesArr rfl rfl)) ?_)
    refine Asy.end_ (by kernel_rfl) ?_
    intro we_ Xe_
    replace X := X.trans (Xd_.trans Xe_)
    clear Xd_ Xe_
    repeat' (first | (with_reducible refine RunLN.chk ?_; refine RunLN.int (by (first | (refine wr_i64 ?_ ?_; omega; omega) | rfl)) ?_) | refine RunL.ev Tryz.tOk rfl rfl rfl ?_ | refine ZzF rfl rfl ?_ | refine ZzR ?_ | refine ZzN ?_ | refine ZzI ?_ | refine ZzK ?_)
    exact RunE.weaken (by repeat (first | exact Sub.nil _ | refine Sub.cons rfl ?_)) (again (i + 1) _ (by omega) ⟨by omega, heq, X⟩)
   | false =>
    have hq : (!(x == y)) = true := by rw [hxy]; rfl
    rw [hxy, Bool.false_and] at heq
    repeat' (first | refine AsyN.boolT (by assumption) ?_ | (with_reducible refine AsyN.chk ?_; refine AsyN.int (by (rfl)) ?_) | refine AsyN.any ?_ | refine Asy.ev Tryz.tOk rfl rfl rfl ?_ | refine Asy.evV rfl rfl rfl rfl (fun _ X_ => OpV.indexS Tryz.tOk i rfl rfl rfl (by first | rfl | omega) (by omega)) ?_ | refine Asy.evV rfl rfl rfl rfl (fun _ X_ => OpV.loadN Tryz.tOk rfl rfl rfl rfl (hrx.up (Xd_.trans X_))) ?_ | refine Asy.evV rfl rfl rfl rfl (fun _ X_ => OpV.loadN Tryz.tOk rfl rfl rfl rfl (hry.up (Xd_.trans X_))) ?_ | refine Asy.evV rfl rfl rfl rfl (fun _ X_ => (OpV.neDg (a := x) (b := y) bytesArr rfl rfl)) ?_)
    refine Asy.end_ (by kernel_rfl) ?_
    intro we_ Xe_
    replace X := X.trans (Xd_.trans Xe_)
    clear Xd_ Xe_
    repeat' (first | with_reducible refine ZzG rfl ?_ | refine RunL.ev Tryz.tOk rfl rfl rfl ?_ | refine ZzT rfl rfl ?_ | refine ZzQ ?_ | refine ZzR ?_ | refine ZzN ?_)
    exact RunE.retFn Tryz.func57 (.tmp rfl .nil) ⟨by rw [heq]; rfl, X⟩
  ·obtain rfl : i = a.length := by omega
   rw [List.drop_length, List.drop_eq_nil_of_le (by omega)] at heq
   clear again
   repeat' (first | with_reducible refine ZzP rfl ?_ | (with_reducible refine RunLN.decF ?_ ?_; focus omega) | (with_reducible refine RunLN.chk ?_; refine RunLN.int (by (rfl)) ?_) | refine ZzA ?_ | refine RunL.ev Tryz.tOk rfl rfl rfl ?_ | refine RunL.evV rfl rfl rfl (OpV.lenSl Tryz.tOk rfl rfl ha) ?_ | refine ZzF rfl rfl ?_ | refine ZzQ ?_ | refine ZzR ?_ | refine ZzN ?_ | refine RunE.exit rfl ?_)
   exact RunE.retFn Tryz.func57 (.tmp rfl .nil) ⟨by rw [heq]; rfl, X⟩
 ·have heq : (a == b) = false := by
   cases e : (a == b) with
   | false => rfl
   | true => exact absurd (by rw [beq_iff_eq.1 e]) hlen
  have hlen' : (a.length : Int) ≠ (b.length : Int) := by omega
  refine RetsX.of (nt := 26) Tryz.func57 (by kernel_rfl) rfl rfl (by simp) (by simp only [argEnv]; rfl) ?_
  have X := ExtB.refl (fun _ => False) w
  repeat' (first | with_reducible refine ZzG rfl ?_ | (with_reducible refine RunLN.neT ?_ ?_; focus omega) | (with_reducible refine RunLN.chk ?_; refine RunLN.int (by (rfl)) ?_) | refine ZzA ?_ | refine RunL.ev Tryz.tOk rfl rfl rfl ?_ | refine RunL.evV rfl rfl rfl (OpV.lenSl Tryz.tOk rfl rfl ha) ?_ | refine RunL.evV rfl rfl rfl (OpV.lenSl Tryz.tOk rfl rfl hb) ?_ | refine ZzT rfl rfl ?_ | refine ZzQ ?_ | refine ZzR ?_ | refine ZzN ?_)
  exact RunE.retFn Tryz.func57 (.tmp rfl .nil) ⟨by rw [heq]; rfl, X⟩
theorem rfewD_ok (d : Deed) (u v : Value) (w : World) (hs : LDg w u d.seen) (hb : LBy w v d.data) : Rets Tryz.prog 15 [.agg (dCells d u v).toArray] w fun r w' => r = .bool (fewD d) ∧ Ext w w' := by
 refine RetsX.of (nt := 13) Tryz.func15 (by kernel_rfl) rfl rfl (by simp) (by simp only [argEnv]; rfl) ?_
 have X := ExtB.refl (fun _ => False) w
 repeat' (first | refine ZzQ ?_ | refine ZzR ?_)
 refine RunL.box rfl rfl rfl fun B1 w1_ a_ => ?_
 have Z1 : Blk w1_ B1 (dCells d u v) 38 := a_.at_
 have gB1 := a_.ge X
 replace X := X.trans a_.ext
 clear a_
 unfold fewD
 by_cases h1 : d.seen.length ≤ 70
 ·by_cases h2 : d.data.length ≤ 1000
  ·rw [decide_eq_true ⟨h1, h2⟩]
   repeat' (first | with_reducible refine ZzP rfl ?_ | with_reducible refine ZzG rfl ?_ | (with_reducible refine RunLN.decT ?_ ?_; focus omega) | (with_reducible refine RunLN.chk ?_; refine RunLN.int (by (rfl)) ?_) | refine ZzA ?_ | refine RunL.ev Tryz.tOk rfl rfl rfl ?_ | refine RunL.evV rfl rfl rfl (OpV.load1 Tryz.tOk rfl rfl rfl (Blk.cell Z1 rfl)) ?_ | refine RunL.evV rfl rfl rfl (OpV.lenSl Tryz.tOk rfl rfl hs) ?_ | refine RunL.evV rfl rfl rfl (OpV.lenSl Tryz.tOk rfl rfl hb) ?_ | refine ZzQ ?_ | refine ZzR ?_ | refine ZzN ?_)
   exact RunE.retFn Tryz.func15 (.tmp rfl .nil) ⟨rfl, X⟩
  ·rw [decide_eq_false fun h => h2 h.2]
   repeat' (first | with_reducible refine ZzP rfl ?_ | with_reducible refine ZzG rfl ?_ | (with_reducible refine RunLN.decT ?_ ?_; focus omega) | (with_reducible refine RunLN.decF ?_ ?_; focus omega) | (with_reducible refine RunLN.chk ?_; refine RunLN.int (by (rfl)) ?_) | refine ZzA ?_ | refine RunL.ev Tryz.tOk rfl rfl rfl ?_ | refine RunL.evV rfl rfl rfl (OpV.load1 Tryz.tOk rfl rfl rfl (Blk.cell Z1 rfl)) ?_ | refine RunL.evV rfl rfl rfl (OpV.lenSl Tryz.tOk rfl rfl hs) ?_ | refine RunL.evV rfl rfl rfl (OpV.lenSl Tryz.tOk rfl rfl hb) ?_ | refine ZzQ ?_ | refine ZzR ?_ | refine ZzN ?_)
   exact RunE.retFn Tryz.func15 (.tmp rfl .nil) ⟨rfl, X⟩
 ·rw [decide_eq_false fun h => h1 h.1]
  repeat' (first | with_reducible refine ZzG rfl ?_ | (with_reducible refine RunLN.decF ?_ ?_; focus omega) | (with_reducible refine RunLN.chk ?_; refine RunLN.int (by (rfl)) ?_) | refine ZzA ?_ | refine RunL.ev Tryz.tOk rfl rfl rfl ?_ | refine RunL.unwantedD rfl rfl ?_ | refine RunL.evV rfl rfl rfl (OpV.load1 Tryz.tOk rfl rfl rfl (Blk.cell Z1 rfl)) ?_ | refine RunL.evV rfl rfl rfl (OpV.lenSl Tryz.tOk rfl rfl hs) ?_ | refine ZzQ ?_ | refine ZzR ?_ | refine ZzN ?_)
  exact RunE.retFn Tryz.func15 (.tmp rfl .nil) ⟨rfl, X⟩
set_option maxRecDepth 4000 in
set_option maxHeartbeats 4000000 in
theorem rsameF_ok (a b : Deed) (u v u' v' : Value) (w : World) (hs : LDg w u a.seen) (hb : LBy w v a.data) (hs' : LDg w u' b.seen) (hb' : LBy w v' b.data) (hl : a.seen.length < 9223372036854775808) (hl' : b.seen.length < 9223372036854775808) : Rets Tryz.prog 26 [.agg (dCells a u v).toArray, .agg (dCells b u' v').toArray] w fun r w' => r = .bool (sameF a b) ∧ Ext w w' := by
 have c1 := fun w h h' => rsameDg_ok a.seen b.seen u u' w h h' hl hl'
 unfold sameF
 refine RetsX.of (nt := 47) Tryz.func26 (by kernel_rfl) rfl rfl (by simp) (by simp only [argEnv]; rfl) ?_
 have X := ExtB.refl (fun _ => False) w
 repeat' (first | refine ZzQ ?_ | refine ZzR ?_)
 refine RunL.box rfl rfl rfl fun B2 w2_ a_ => ?_
 have Z2 : Blk w2_ B2 (dCells a u v) 38 := a_.at_
 have gB2 := a_.ge X
 replace X := X.trans a_.ext
 clear a_
 skip
 refine RunL.box rfl rfl rfl fun B3 w3_ a_ => ?_
 have Z3 : Blk w3_ B3 (dCells b u' v') 38 := a_.at_
 have gB3 := a_.ge X
 have n2_3 : B2 ≠ B3 := by have := Z2.lt; have := a_.eq; omega
 have n3_2 : B3 ≠ B2 := Ne.symm n2_3
 replace Z2 := Z2.up a_.ext
 replace X := X.trans a_.ext
 clear a_
 cases q1 : (a.person == b.person) with
 | false =>
  repeat' (first | with_reducible refine ZzG rfl ?_ | refine RunLN.boolF (by assumption) ?_ | (with_reducible refine RunLN.chk ?_; refine RunLN.int (by (rfl)) ?_) | refine ZzA ?_ | refine RunL.ev Tryz.tOk rfl rfl rfl ?_ | refine RunL.unwantedD rfl rfl ?_ | refine RunL.evV rfl rfl rfl (OpV.load1 Tryz.tOk rfl rfl rfl (Blk.cell Z2 rfl)) ?_ | refine RunL.evV rfl rfl rfl (OpV.load1 Tryz.tOk rfl rfl rfl (Blk.cell Z3 rfl)) ?_ | refine ZzQ ?_ | refine ZzR ?_ | refine ZzN ?_)
  exact RunE.retFn Tryz.func26 (.tmp rfl .nil) ⟨rfl, X⟩
 | true =>
 cases q2 : (a.no == b.no) with
 | false =>
  repeat' (first | with_reducible refine ZzP rfl ?_ | with_reducible refine ZzG rfl ?_ | refine RunLN.boolT (by assumption) ?_ | refine RunLN.boolF (by assumption) ?_ | (with_reducible refine RunLN.chk ?_; refine RunLN.int (by (rfl)) ?_) | refine ZzA ?_ | refine RunL.ev Tryz.tOk rfl rfl rfl ?_ | refine RunL.unwantedD rfl rfl ?_ | refine RunL.evV rfl rfl rfl (OpV.load1 Tryz.tOk rfl rfl rfl (Blk.cell Z2 rfl)) ?_ | refine RunL.evV rfl rfl rfl (OpV.load1 Tryz.tOk rfl rfl rfl (Blk.cell Z3 rfl)) ?_ | refine ZzQ ?_ | refine ZzR ?_ | refine ZzN ?_)
  exact RunE.retFn Tryz.func26 (.tmp rfl .nil) ⟨rfl, X⟩
 | true =>
 cases q3 : (a.at_ == b.at_) with
 | false =>
  repeat' (first | with_reducible refine ZzP rfl ?_ | with_reducible refine ZzG rfl ?_ | refine RunLN.boolT (by assumption) ?_ | refine RunLN.boolF (by assumption) ?_ | (with_reducible refine RunLN.chk ?_; refine RunLN.int (by (rfl)) ?_) | refine ZzA ?_ | refine RunL.ev Tryz.tOk rfl rfl rfl ?_ | refine RunL.unwantedD rfl rfl ?_ | refine RunL.evV rfl rfl rfl (OpV.load1 Tryz.tOk rfl rfl rfl (Blk.cell Z2 rfl)) ?_ | refine RunL.evV rfl rfl rfl (OpV.load1 Tryz.tOk rfl rfl rfl (Blk.cell Z3 rfl)) ?_ | refine ZzQ ?_ | refine ZzR ?_ | refine ZzN ?_)
  exact RunE.retFn Tryz.func26 (.tmp rfl .nil) ⟨rfl, X⟩
 | true =>
 cases q4 : (a.prev == b.prev) with
 | false =>
  repeat' (first | with_reducible refine ZzP rfl ?_ | with_reducible refine ZzG rfl ?_ | refine RunLN.boolT (by assumption) ?_ | refine RunLN.boolF (by assumption) ?_ | (with_reducible refine RunLN.chk ?_; refine RunLN.int (by (rfl)) ?_) | refine ZzA ?_ | refine RunL.ev Tryz.tOk rfl rfl rfl ?_ | refine RunL.unwantedD rfl rfl ?_ | refine RunL.evV rfl rfl rfl (OpV.load1 Tryz.tOk rfl rfl rfl (Blk.cell Z2 rfl)) ?_ | refine RunL.evV rfl rfl rfl (OpV.load1 Tryz.tOk rfl rfl rfl (Blk.cell Z3 rfl)) ?_ | refine RunL.evV rfl rfl rfl (OpV.loadN Tryz.tOk rfl rfl rfl rfl (row_prev (Blk.row Z2))) ?_ | refine RunL.evV rfl rfl rfl (OpV.loadN Tryz.tOk rfl rfl rfl rfl (row_prev (Blk.row Z3))) ?_ | refine RunL.evV rfl rfl rfl ((OpV.eqDg (a := a.prev) (b := b.prev) bytesArr rfl rfl)) ?_ | refine ZzQ ?_ | refine ZzR ?_ | refine ZzN ?_)
  exact RunE.retFn Tryz.func26 (.tmp rfl .nil) ⟨rfl, X⟩
 | true =>
 cases q5 : (a.seen == b.seen) with
 | false =>
  rw [q5] at c1
  repeat' (first | with_reducible refine ZzP rfl ?_ | with_reducible refine ZzG rfl ?_ | refine RunLN.boolT (by assumption) ?_ | (with_reducible refine RunLN.chk ?_; refine RunLN.int (by (rfl)) ?_) | refine ZzA ?_ | refine RunL.ev Tryz.tOk rfl rfl rfl ?_ | refine RunL.evV rfl rfl rfl (OpV.load1 Tryz.tOk rfl rfl rfl (Blk.cell Z2 rfl)) ?_ | refine RunL.evV rfl rfl rfl (OpV.load1 Tryz.tOk rfl rfl rfl (Blk.cell Z3 rfl)) ?_ | refine RunL.evV rfl rfl rfl (OpV.loadN Tryz.tOk rfl rfl rfl rfl (row_prev (Blk.row Z2))) ?_ | refine RunL.evV rfl rfl rfl (OpV.loadN Tryz.tOk rfl rfl rfl rfl (row_prev (Blk.row Z3))) ?_ | refine RunL.evV rfl rfl rfl ((OpV.eqDg (a := a.prev) (b := b.prev) bytesArr rfl rfl)) ?_ | refine ZzQ ?_ | refine ZzR ?_ | refine ZzN ?_)
  refine RunL.call rfl rfl rfl (c1 _ (hs.up X) (hs'.up X)) ?_
  rintro _ _ ⟨rfl, Xa_⟩
  replace Z2 := Z2.up Xa_
  replace Z3 := Z3.up Xa_
  replace X := X.trans Xa_
  clear Xa_
  repeat' (first | with_reducible refine ZzG rfl ?_ | refine RunL.ev Tryz.tOk rfl rfl rfl ?_ | refine RunL.unwantedD rfl rfl ?_ | refine ZzN ?_)
  exact RunE.retFn Tryz.func26 (.tmp rfl .nil) ⟨rfl, X⟩
 | true =>
  rw [q5] at c1
  repeat' (first | with_reducible refine ZzP rfl ?_ | with_reducible refine ZzG rfl ?_ | refine RunLN.boolT (by assumption) ?_ | (with_reducible refine RunLN.chk ?_; refine RunLN.int (by (rfl)) ?_) | refine ZzA ?_ | refine RunL.ev Tryz.tOk rfl rfl rfl ?_ | refine RunL.evV rfl rfl rfl (OpV.load1 Tryz.tOk rfl rfl rfl (Blk.cell Z2 rfl)) ?_ | refine RunL.evV rfl rfl rfl (OpV.load1 Tryz.tOk rfl rfl rfl (Blk.cell Z3 rfl)) ?_ | refine RunL.evV rfl rfl rfl (OpV.loadN Tryz.tOk rfl rfl rfl rfl (row_prev (Blk.row Z2))) ?_ | refine RunL.evV rfl rfl rfl (OpV.loadN Tryz.tOk rfl rfl rfl rfl (row_prev (Blk.row Z3))) ?_ | refine RunL.evV rfl rfl rfl ((OpV.eqDg (a := a.prev) (b := b.prev) bytesArr rfl rfl)) ?_ | refine ZzQ ?_ | refine ZzR ?_ | refine ZzN ?_)
  refine RunL.call rfl rfl rfl (c1 _ (hs.up X) (hs'.up X)) ?_
  rintro _ _ ⟨rfl, Xa_⟩
  replace Z2 := Z2.up Xa_
  replace Z3 := Z3.up Xa_
  replace X := X.trans Xa_
  clear Xa_
  repeat' (first | with_reducible refine ZzP rfl ?_ | refine ZzA ?_ | refine RunL.ev Tryz.tOk rfl rfl rfl ?_ | refine RunL.evV rfl rfl rfl (OpV.load1 Tryz.tOk rfl rfl rfl (Blk.cell Z2 rfl)) ?_ | refine RunL.evV rfl rfl rfl (OpV.load1 Tryz.tOk rfl rfl rfl (Blk.cell Z3 rfl)) ?_ | refine RunL.evV rfl rfl rfl ((OpV.b2sSl (l := a.data) Tryz.tOk rfl rfl rfl rfl (hb.up X))) ?_ | refine RunL.evV rfl rfl rfl ((OpV.b2sSl (l := b.data) Tryz.tOk rfl rfl rfl rfl (hb'.up X))) ?_ | refine ZzN ?_)
  exact RunE.retFn Tryz.func26 (.tmp rfl .nil) ⟨by rw [str_toList, str_toList]; rfl, X⟩
theorem rsameD_ok (a b : Deed) (u v u' v' : Value) (w : World) (hs : LDg w u a.seen) (hb : LBy w v a.data) (hs' : LDg w u' b.seen) (hb' : LBy w v' b.data) (hl : a.seen.length < 9223372036854775808) (hl' : b.seen.length < 9223372036854775808) : Rets Tryz.prog 44 [.agg (dCells a u v).toArray, .agg (dCells b u' v').toArray] w fun r w' => r = .bool (sameD a b) ∧ Ext w w' := by
 have c1 := fun w h1 h2 h3 h4 => rsameF_ok a b u v u' v' w h1 h2 h3 h4 hl hl'
 unfold sameD
 refine RetsX.of (nt := 15) Tryz.func44 (by kernel_rfl) rfl rfl (by simp) (by simp only [argEnv]; rfl) ?_
 have X := ExtB.refl (fun _ => False) w
 repeat' (first | refine ZzQ ?_ | refine ZzR ?_)
 refine RunL.box rfl rfl rfl fun B2 w2_ a_ => ?_
 have Z2 : Blk w2_ B2 (dCells a u v) 38 := a_.at_
 have gB2 := a_.ge X
 replace X := X.trans a_.ext
 clear a_
 skip
 refine RunL.box rfl rfl rfl fun B3 w3_ a_ => ?_
 have Z3 : Blk w3_ B3 (dCells b u' v') 38 := a_.at_
 have gB3 := a_.ge X
 have n2_3 : B2 ≠ B3 := by have := Z2.lt; have := a_.eq; omega
 have n3_2 : B3 ≠ B2 := Ne.symm n2_3
 replace Z2 := Z2.up a_.ext
 replace X := X.trans a_.ext
 clear a_
 repeat' (first | with_reducible refine ZzG rfl ?_ | refine ZzA ?_ | refine RunL.ev Tryz.tOk rfl rfl rfl ?_ | refine RunL.evV rfl rfl rfl (OpV.loadN Tryz.tOk rfl rfl rfl rfl (Blk.row Z2)) ?_ | refine RunL.evV rfl rfl rfl (OpV.loadN Tryz.tOk rfl rfl rfl rfl (Blk.row Z3)) ?_ | refine ZzQ ?_ | refine ZzR ?_ | refine ZzN ?_)
 refine RunL.call rfl rfl rfl (c1 _ (hs.up X) (hb.up X) (hs'.up X) (hb'.up X)) ?_
 rintro _ _ ⟨rfl, Xa_⟩
 replace Z2 := Z2.up Xa_
 replace Z3 := Z3.up Xa_
 replace X := X.trans Xa_
 clear Xa_
 cases sameF a b with
 | false =>
  repeat' (first | with_reducible refine ZzG rfl ?_ | refine RunL.ev Tryz.tOk rfl rfl rfl ?_ | refine RunL.unwantedD rfl rfl ?_ | refine ZzN ?_)
  exact RunE.retFn Tryz.func44 (.tmp rfl .nil) ⟨rfl, X⟩
 | true =>
  repeat' (first | with_reducible refine ZzP rfl ?_ | refine ZzA ?_ | refine RunL.ev Tryz.tOk rfl rfl rfl ?_ | refine RunL.evV rfl rfl rfl (OpV.loadN Tryz.tOk rfl rfl rfl rfl (row_sig (Blk.row Z2))) ?_ | refine RunL.evV rfl rfl rfl (OpV.loadN Tryz.tOk rfl rfl rfl rfl (row_sig (Blk.row Z3))) ?_ | refine RunL.evV rfl rfl rfl ((OpV.eqTwo sigTwo (a := a.e) (b := a.s) (c := b.e) (d := b.s) rfl rfl)) ?_ | refine ZzN ?_)
  exact RunE.retFn Tryz.func44 (.tmp rfl .nil) ⟨rfl, X⟩
end Go.Sg
end
section
/- Merge: same deeds; a deed in a list. -/
set_option maxRecDepth 4000
namespace Go.Sg
open Go.Rn Go.Proofs Go.Dee Go.Mer Go.Rec Go.RowKit Go.Sha Go.Cod Go.NT
attribute [local irreducible] Go.Rn.RetsX Go.Rn.RunLN Go.Rn.AsyN Go.Rn.RunL Go.Rn.RunE Go.Rn.Asy Go.Rn.OpV Go.Rn.OpE Go.Rn.ExecE
theorem bytesEq_ok (a b : List UInt8) (u v : Value) (w : World) (ha : LBy w u a) (hb : LBy w v b) : Rets Tryz.prog 71 [u, v] w fun r w' => r = .bool (a == b) ∧ Ext w w' := by
 refine RetsX.of (nt := 10) Tryz.func71 (by kernel_rfl) rfl rfl (by simp) (by simp only [argEnv]; rfl) ?_
 have X := ExtB.refl (fun _ => False) w
 repeat' (first | with_reducible refine ZzG rfl ?_ | refine ZzA ?_ | refine RunL.ev Tryz.tOk rfl rfl rfl ?_ | refine RunL.evV rfl rfl rfl ((OpV.b2sSl (l := a) Tryz.tOk rfl rfl rfl rfl (ha.up X))) ?_ | refine RunL.evV rfl rfl rfl ((OpV.b2sSl (l := b) Tryz.tOk rfl rfl rfl rfl (hb.up X))) ?_ | refine ZzQ ?_ | refine ZzR ?_ | refine ZzN ?_)
 exact RunE.retFn Tryz.func71 (.tmp rfl .nil) ⟨by rw [str_toList, str_toList]; rfl, X⟩
theorem dgEqual_ok (a b : List Dg) (u u' : Value) (w : World) (ha : LDg w u a) (hb : LDg w u' b) (hl : a.length < 9223372036854775808) (hl' : b.length < 9223372036854775808) : Rets Tryz.prog 70 [u, u'] w fun r w' => r = .bool (a == b) ∧ Ext w w' := by
 by_cases hlen : a.length = b.length
 ·refine RetsX.of (nt := 26) Tryz.func70 (by kernel_rfl) rfl rfl (by simp) (by simp only [argEnv]; rfl) ?_
  have X := ExtB.refl (fun _ => False) w
  repeat' (first | with_reducible refine ZzG rfl ?_ | (with_reducible refine RunLN.neF ?_ ?_; focus omega) | (with_reducible refine RunLN.chk ?_; refine RunLN.int (by (rfl)) ?_) | refine ZzA ?_ | refine RunL.ev Tryz.tOk rfl rfl rfl ?_ | refine RunL.evV rfl rfl rfl (OpV.lenSl Tryz.tOk rfl rfl ha) ?_ | refine RunL.evV rfl rfl rfl (OpV.lenSl Tryz.tOk rfl rfl hb) ?_ | refine ZzF rfl rfl ?_ | refine ZzQ ?_ | refine ZzR ?_ | refine ZzN ?_ | refine ZzB ?_ | refine ZzK ?_)
  refine RunE.loop (ι := Nat) (fun s => [(0, u), (1, u'), (4, .bool false), (11, u), (12, .int .i64 (a.length : Int)), (13, .int .i64 (s : Int))])
   (fun s w' => s ≤ a.length ∧ (a == b) = (a.drop s == b.drop s) ∧ Ext w w') (fun s => a.length - s) 0 (by repeat (first | exact Sub.nil _ | refine Sub.cons rfl ?_)) ⟨Nat.zero_le _, rfl, X⟩ ?_
  clear X
  rintro i w3 ⟨hi, heq, X⟩ again
  by_cases hlt : i < a.length
  ·obtain ⟨x, hx⟩ : ∃ x, a[i]? = some x := ⟨_, List.getElem?_eq_getElem hlt⟩
   obtain ⟨y, hy⟩ : ∃ y, b[i]? = some y := ⟨_, List.getElem?_eq_getElem (by omega)⟩
   rw [eqL_step hx hy] at heq
   obtain ⟨b1, o1, c1, rfl, hr1, -⟩ := isL_held ha hlt
   obtain ⟨b2, o2, c2, rfl, hr2, -⟩ := isL_held hb (show i < b.length by omega)
   have hrx := flat_row encG (hr1.up X) hx
   have hry := flat_row encG (hr2.up X) hy
   repeat' (first | (with_reducible refine RunLN.decT ?_ ?_; focus omega) | (with_reducible refine RunLN.chk ?_; refine RunLN.int (by (rfl)) ?_) | refine RunL.ev Tryz.tOk rfl rfl rfl ?_ | refine ZzT rfl rfl ?_ | refine ZzQ ?_ | refine ZzR ?_ | refine ZzN ?_ | refine ZzB ?_ | refine ZzK ?_)
   refine RunE.draw (fun _ => False) mix ?_
   intro wd_ Xd_
   cases hxy : (x == y) with
   | true =>
    have hq : (!(x == y)) = false := by rw [hxy]; rfl
    rw [hxy, Bool.true_and] at heq
    repeat' (first | refine AsyN.boolF (by assumption) ?_ | (with_reducible refine AsyN.chk ?_; refine AsyN.int (by (rfl)) ?_) | refine AsyN.any ?_ | refine Asy.ev Tryz.tOk rfl rfl rfl ?_ | refine Asy.evV rfl rfl rfl rfl (fun _ X_ => OpV.indexS Tryz.tOk i rfl rfl rfl (by first | rfl | omega) (by omega)) ?_ | refine Asy.evV rfl rfl rfl rfl (fun _ X_ => OpV.loadN Tryz.tOk rfl rfl rfl rfl (hrx.up (Xd_.trans X_))) ?_ | refine Asy.evV rfl rfl rfl rfl (fun _ X_ => OpV.loadN Tryz.tOk rfl rfl rfl rfl (hry.up (Xd_.trans X_))) ?_ | refine Asy.evV rfl rfl rfl rfl (fun _ X_ => (OpV.neDg (a := x) (b := y) bytesArr rfl rfl)) ?_)
    refine Asy.end_ (by kernel_rfl) ?_
    intro we_ Xe_
    replace X := X.trans (Xd_.trans Xe_)
    clear Xd_ Xe_
    repeat' (first | (with_reducible refine RunLN.chk ?_; refine RunLN.int (by (first | (refine wr_i64 ?_ ?_; omega; omega) | rfl)) ?_) | refine RunL.ev Tryz.tOk rfl rfl rfl ?_ | refine ZzF rfl rfl ?_ | refine ZzR ?_ | refine ZzN ?_ | refine ZzI ?_ | refine ZzK ?_)
    exact RunE.weaken (by repeat (first | exact Sub.nil _ | refine Sub.cons rfl ?_)) (again (i + 1) _ (by omega) ⟨by omega, heq, X⟩)
   | false =>
    have hq : (!(x == y)) = true := by rw [hxy]; rfl
    rw [hxy, Bool.false_and] at heq
    repeat' (first | refine AsyN.boolT (by assumption) ?_ | (with_reducible refine AsyN.chk ?_; refine AsyN.int (by (rfl)) ?_) | refine AsyN.any ?_ | refine Asy.ev Tryz.tOk rfl rfl rfl ?_ | refine Asy.evV rfl rfl rfl rfl (fun _ X_ => OpV.indexS Tryz.tOk i rfl rfl rfl (by first | rfl | omega) (by omega)) ?_ | refine Asy.evV rfl rfl rfl rfl (fun _ X_ => OpV.loadN Tryz.tOk rfl rfl rfl rfl (hrx.up (Xd_.trans X_))) ?_ | refine Asy.evV rfl rfl rfl rfl (fun _ X_ => OpV.loadN Tryz.tOk rfl rfl rfl rfl (hry.up (Xd_.trans X_))) ?_ | refine Asy.evV rfl rfl rfl rfl (fun _ X_ => (OpV.neDg (a := x) (b := y) bytesArr rfl rfl)) ?_)
    refine Asy.end_ (by kernel_rfl) ?_
    intro we_ Xe_
    replace X := X.trans (Xd_.trans Xe_)
    clear Xd_ Xe_
    repeat' (first | with_reducible refine ZzG rfl ?_ | refine RunL.ev Tryz.tOk rfl rfl rfl ?_ | refine ZzT rfl rfl ?_ | refine ZzQ ?_ | refine ZzR ?_ | refine ZzN ?_)
    exact RunE.retFn Tryz.func70 (.tmp rfl .nil) ⟨by rw [heq]; rfl, X⟩
  ·obtain rfl : i = a.length := by omega
   rw [List.drop_length, List.drop_eq_nil_of_le (by omega)] at heq
   clear again
   repeat' (first | with_reducible refine ZzP rfl ?_ | (with_reducible refine RunLN.decF ?_ ?_; focus omega) | refine RunL.ev Tryz.tOk rfl rfl rfl ?_ | refine ZzF rfl rfl ?_ | refine ZzQ ?_ | refine ZzR ?_ | refine ZzN ?_ | refine RunE.exit rfl ?_)
   exact RunE.retFn Tryz.func70 (.tmp rfl .nil) ⟨by rw [heq]; rfl, X⟩
 ·have heq : (a == b) = false := by
   cases e : (a == b) with
   | false => rfl
   | true => exact absurd (by rw [beq_iff_eq.1 e]) hlen
  have hlen' : (a.length : Int) ≠ (b.length : Int) := by omega
  refine RetsX.of (nt := 26) Tryz.func70 (by kernel_rfl) rfl rfl (by simp) (by simp only [argEnv]; rfl) ?_
  have X := ExtB.refl (fun _ => False) w
  repeat' (first | with_reducible refine ZzG rfl ?_ | (with_reducible refine RunLN.neT ?_ ?_; focus omega) | (with_reducible refine RunLN.chk ?_; refine RunLN.int (by (rfl)) ?_) | refine ZzA ?_ | refine RunL.ev Tryz.tOk rfl rfl rfl ?_ | refine RunL.evV rfl rfl rfl (OpV.lenSl Tryz.tOk rfl rfl ha) ?_ | refine RunL.evV rfl rfl rfl (OpV.lenSl Tryz.tOk rfl rfl hb) ?_ | refine ZzT rfl rfl ?_ | refine ZzQ ?_ | refine ZzR ?_ | refine ZzN ?_)
  exact RunE.retFn Tryz.func70 (.tmp rfl .nil) ⟨by rw [heq]; rfl, X⟩
set_option maxHeartbeats 4000000 in
theorem msame_ok (a b : Deed) (u v u' v' : Value) (w : World) (hs : LDg w u a.seen) (hb : LBy w v a.data) (hs' : LDg w u' b.seen) (hb' : LBy w v' b.data) (hl : a.seen.length < 9223372036854775808) (hl' : b.seen.length < 9223372036854775808) : Rets Tryz.prog 47 [.agg (dCells a u v).toArray, .agg (dCells b u' v').toArray] w fun r w' => r = .bool (sameF a b) ∧ Ext w w' := by
 have c1 := fun w h h' => dgEqual_ok a.seen b.seen u u' w h h' hl hl'
 have c2 := fun w h h' => bytesEq_ok a.data b.data v v' w h h'
 unfold sameF
 refine RetsX.of (nt := 45) Tryz.func47 (by kernel_rfl) rfl rfl (by simp) (by simp only [argEnv]; rfl) ?_
 have X := ExtB.refl (fun _ => False) w
 repeat' (first | refine ZzQ ?_ | refine ZzR ?_)
 refine RunL.box rfl rfl rfl fun B2 w2_ a_ => ?_
 have Z2 : Blk w2_ B2 (dCells a u v) 38 := a_.at_
 have gB2 := a_.ge X
 replace X := X.trans a_.ext
 clear a_
 skip
 refine RunL.box rfl rfl rfl fun B3 w3_ a_ => ?_
 have Z3 : Blk w3_ B3 (dCells b u' v') 38 := a_.at_
 have gB3 := a_.ge X
 have n2_3 : B2 ≠ B3 := by have := Z2.lt; have := a_.eq; omega
 have n3_2 : B3 ≠ B2 := Ne.symm n2_3
 replace Z2 := Z2.up a_.ext
 replace X := X.trans a_.ext
 clear a_
 cases q1 : (a.person == b.person) with
 | false =>
  repeat' (first | with_reducible refine ZzG rfl ?_ | refine RunLN.boolF (by assumption) ?_ | (with_reducible refine RunLN.chk ?_; refine RunLN.int (by (rfl)) ?_) | refine ZzA ?_ | refine RunL.ev Tryz.tOk rfl rfl rfl ?_ | refine RunL.unwantedD rfl rfl ?_ | refine RunL.evV rfl rfl rfl (OpV.load1 Tryz.tOk rfl rfl rfl (Blk.cell Z2 rfl)) ?_ | refine RunL.evV rfl rfl rfl (OpV.load1 Tryz.tOk rfl rfl rfl (Blk.cell Z3 rfl)) ?_ | refine ZzQ ?_ | refine ZzR ?_ | refine ZzN ?_)
  exact RunE.retFn Tryz.func47 (.tmp rfl .nil) ⟨rfl, X⟩
 | true =>
 cases q2 : (a.no == b.no) with
 | false =>
  repeat' (first | with_reducible refine ZzP rfl ?_ | with_reducible refine ZzG rfl ?_ | refine RunLN.boolT (by assumption) ?_ | refine RunLN.boolF (by assumption) ?_ | (with_reducible refine RunLN.chk ?_; refine RunLN.int (by (rfl)) ?_) | refine ZzA ?_ | refine RunL.ev Tryz.tOk rfl rfl rfl ?_ | refine RunL.unwantedD rfl rfl ?_ | refine RunL.evV rfl rfl rfl (OpV.load1 Tryz.tOk rfl rfl rfl (Blk.cell Z2 rfl)) ?_ | refine RunL.evV rfl rfl rfl (OpV.load1 Tryz.tOk rfl rfl rfl (Blk.cell Z3 rfl)) ?_ | refine ZzQ ?_ | refine ZzR ?_ | refine ZzN ?_)
  exact RunE.retFn Tryz.func47 (.tmp rfl .nil) ⟨rfl, X⟩
 | true =>
 cases q3 : (a.at_ == b.at_) with
 | false =>
  repeat' (first | with_reducible refine ZzP rfl ?_ | with_reducible refine ZzG rfl ?_ | refine RunLN.boolT (by assumption) ?_ | refine RunLN.boolF (by assumption) ?_ | (with_reducible refine RunLN.chk ?_; refine RunLN.int (by (rfl)) ?_) | refine ZzA ?_ | refine RunL.ev Tryz.tOk rfl rfl rfl ?_ | refine RunL.unwantedD rfl rfl ?_ | refine RunL.evV rfl rfl rfl (OpV.load1 Tryz.tOk rfl rfl rfl (Blk.cell Z2 rfl)) ?_ | refine RunL.evV rfl rfl rfl (OpV.load1 Tryz.tOk rfl rfl rfl (Blk.cell Z3 rfl)) ?_ | refine ZzQ ?_ | refine ZzR ?_ | refine ZzN ?_)
  exact RunE.retFn Tryz.func47 (.tmp rfl .nil) ⟨rfl, X⟩
 | true =>
 cases q4 : (a.prev == b.prev) with
 | false =>
  repeat' (first | with_reducible refine ZzP rfl ?_ | with_reducible refine ZzG rfl ?_ | refine RunLN.boolT (by assumption) ?_ | refine RunLN.boolF (by assumption) ?_ | (with_reducible refine RunLN.chk ?_; refine RunLN.int (by (rfl)) ?_) | refine ZzA ?_ | refine RunL.ev Tryz.tOk rfl rfl rfl ?_ | refine RunL.unwantedD rfl rfl ?_ | refine RunL.evV rfl rfl rfl (OpV.load1 Tryz.tOk rfl rfl rfl (Blk.cell Z2 rfl)) ?_ | refine RunL.evV rfl rfl rfl (OpV.load1 Tryz.tOk rfl rfl rfl (Blk.cell Z3 rfl)) ?_ | refine RunL.evV rfl rfl rfl (OpV.loadN Tryz.tOk rfl rfl rfl rfl (row_prev (Blk.row Z2))) ?_ | refine RunL.evV rfl rfl rfl (OpV.loadN Tryz.tOk rfl rfl rfl rfl (row_prev (Blk.row Z3))) ?_ | refine RunL.evV rfl rfl rfl ((OpV.eqDg (a := a.prev) (b := b.prev) bytesArr rfl rfl)) ?_ | refine ZzQ ?_ | refine ZzR ?_ | refine ZzN ?_)
  exact RunE.retFn Tryz.func47 (.tmp rfl .nil) ⟨rfl, X⟩
 | true =>
 cases q5 : (a.seen == b.seen) with
 | false =>
  rw [q5] at c1
  repeat' (first | with_reducible refine ZzP rfl ?_ | with_reducible refine ZzG rfl ?_ | refine RunLN.boolT (by assumption) ?_ | (with_reducible refine RunLN.chk ?_; refine RunLN.int (by (rfl)) ?_) | refine ZzA ?_ | refine RunL.ev Tryz.tOk rfl rfl rfl ?_ | refine RunL.evV rfl rfl rfl (OpV.load1 Tryz.tOk rfl rfl rfl (Blk.cell Z2 rfl)) ?_ | refine RunL.evV rfl rfl rfl (OpV.load1 Tryz.tOk rfl rfl rfl (Blk.cell Z3 rfl)) ?_ | refine RunL.evV rfl rfl rfl (OpV.loadN Tryz.tOk rfl rfl rfl rfl (row_prev (Blk.row Z2))) ?_ | refine RunL.evV rfl rfl rfl (OpV.loadN Tryz.tOk rfl rfl rfl rfl (row_prev (Blk.row Z3))) ?_ | refine RunL.evV rfl rfl rfl ((OpV.eqDg (a := a.prev) (b := b.prev) bytesArr rfl rfl)) ?_ | refine ZzQ ?_ | refine ZzR ?_ | refine ZzN ?_)
  refine RunL.call rfl rfl rfl (c1 _ (hs.up X) (hs'.up X)) ?_
  rintro _ _ ⟨rfl, Xa_⟩
  replace Z2 := Z2.up Xa_
  replace Z3 := Z3.up Xa_
  replace X := X.trans Xa_
  clear Xa_
  repeat' (first | with_reducible refine ZzG rfl ?_ | refine RunL.ev Tryz.tOk rfl rfl rfl ?_ | refine RunL.unwantedD rfl rfl ?_ | refine ZzN ?_)
  exact RunE.retFn Tryz.func47 (.tmp rfl .nil) ⟨rfl, X⟩
 | true =>
  rw [q5] at c1
  repeat' (first | with_reducible refine ZzP rfl ?_ | with_reducible refine ZzG rfl ?_ | refine RunLN.boolT (by assumption) ?_ | (with_reducible refine RunLN.chk ?_; refine RunLN.int (by (rfl)) ?_) | refine ZzA ?_ | refine RunL.ev Tryz.tOk rfl rfl rfl ?_ | refine RunL.evV rfl rfl rfl (OpV.load1 Tryz.tOk rfl rfl rfl (Blk.cell Z2 rfl)) ?_ | refine RunL.evV rfl rfl rfl (OpV.load1 Tryz.tOk rfl rfl rfl (Blk.cell Z3 rfl)) ?_ | refine RunL.evV rfl rfl rfl (OpV.loadN Tryz.tOk rfl rfl rfl rfl (row_prev (Blk.row Z2))) ?_ | refine RunL.evV rfl rfl rfl (OpV.loadN Tryz.tOk rfl rfl rfl rfl (row_prev (Blk.row Z3))) ?_ | refine RunL.evV rfl rfl rfl ((OpV.eqDg (a := a.prev) (b := b.prev) bytesArr rfl rfl)) ?_ | refine ZzQ ?_ | refine ZzR ?_ | refine ZzN ?_)
  refine RunL.call rfl rfl rfl (c1 _ (hs.up X) (hs'.up X)) ?_
  rintro _ _ ⟨rfl, Xa_⟩
  replace Z2 := Z2.up Xa_
  replace Z3 := Z3.up Xa_
  replace X := X.trans Xa_
  clear Xa_
  repeat' (first | with_reducible refine ZzP rfl ?_ | refine ZzA ?_ | refine RunL.ev Tryz.tOk rfl rfl rfl ?_ | refine RunL.evV rfl rfl rfl (OpV.load1 Tryz.tOk rfl rfl rfl (Blk.cell Z2 rfl)) ?_ | refine RunL.evV rfl rfl rfl (OpV.load1 Tryz.tOk rfl rfl rfl (Blk.cell Z3 rfl)) ?_)
  refine RunL.call rfl rfl rfl (c2 _ (hb.up X) (hb'.up X)) ?_
  rintro _ _ ⟨rfl, Xa_⟩
  replace Z2 := Z2.up Xa_
  replace Z3 := Z3.up Xa_
  replace X := X.trans Xa_
  clear Xa_
  generalize (a.data == b.data) = q6
  repeat' (first | refine ZzA ?_ | refine RunL.ev Tryz.tOk rfl rfl rfl ?_ | refine ZzN ?_)
  exact RunE.retFn Tryz.func47 (.tmp rfl .nil) ⟨rfl, X⟩
theorem sameP_ok (x y : Dr) (b : Nat) (w : World) (hx : HoldR w x) (hy : HoldR w y) (hlx : x.d.seen.length < 9223372036854775808) (hly : y.d.seen.length < 9223372036854775808) (hB : Blk w b y.cells 38) :
  Rets Tryz.prog 61 [.agg x.cells.toArray, .pointer (some ⟨b, 0, none⟩)] w fun r w' => r = .bool (sameF x.d y.d) ∧ Ext w w' := by
 have c1 := fun w h1 h2 h3 h4 => msame_ok x.d y.d x.u x.v y.u y.v w h1 h2 h3 h4 hlx hly
 refine RetsX.of (nt := 7) Tryz.func61 (by kernel_rfl) rfl rfl (by simp) (by simp only [argEnv]; rfl) ?_
 have X := ExtB.refl (fun _ => False) w
 repeat' (first | refine ZzQ ?_ | refine ZzR ?_)
 refine RunL.box rfl rfl rfl fun B2 w2_ a_ => ?_
 have Z2 : Blk w2_ B2 (x.cells) 38 := a_.at_
 have gB2 := a_.ge X
 replace X := X.trans a_.ext
 clear a_
 repeat' (first | with_reducible refine ZzG rfl ?_ | refine ZzA ?_ | refine RunL.ev Tryz.tOk rfl rfl rfl ?_ | refine RunL.evV rfl rfl rfl (OpV.loadN Tryz.tOk rfl rfl rfl rfl (Blk.row Z2)) ?_ | refine RunL.evV rfl rfl rfl (OpV.loadN Tryz.tOk rfl rfl rfl rfl (Blk.row (hB.up X))) ?_ | refine ZzQ ?_ | refine ZzR ?_ | refine ZzN ?_)
 refine RunL.call rfl rfl rfl (c1 _ (hx.seen.up X) (hx.data.up X) (hy.seen.up X) (hy.data.up X)) ?_
 rintro _ _ ⟨rfl, Xa_⟩
 replace X := X.trans Xa_
 clear Xa_
 repeat' (first | refine ZzA ?_ | refine RunL.ev Tryz.tOk rfl rfl rfl ?_ | refine ZzN ?_)
 exact RunE.retFn Tryz.func61 (.tmp rfl .nil) ⟨rfl, X⟩
set_option maxHeartbeats 1000000 in
/-- Is there an element for which a function says true? -/
theorem drindexFunc_ok (l : List Dr) (v f : Value) (p : Dr → Bool) (w : World) (hv : IsL w Dr.cells 39 v l) (hl : l.length < 9223372036854775808)
  (hf : ∀ (w' : World) (x : Dr), Ext w w' → x ∈ l → FnV Tryz.prog f [.agg (Dr.cells x).toArray] w' (fun r w'' => r = .bool (p x) ∧ Ext w' w'') fun _ _ => False) :
  Rets Tryz.prog 89 [v, f] w fun r w' => ((l.any p = true ∧ ∃ i : Nat, r = .int .i64 (i : Int)) ∨ (l.any p = false ∧ r = .int .i64 (-1))) ∧ Ext w w' := by
 refine RetsX.of (nt := 19) Tryz.func89 (by kernel_rfl) rfl rfl (by simp) (by simp only [argEnv]; rfl) ?_
 have X := ExtB.refl (fun _ => False) w
 repeat' (first | (with_reducible refine RunLN.chk ?_; refine RunLN.int (by (rfl)) ?_) | refine ZzA ?_ | refine RunL.ev Tryz.tOk rfl rfl rfl ?_ | refine RunL.evV rfl rfl rfl (OpV.lenSl Tryz.tOk rfl rfl hv) ?_ | refine ZzQ ?_ | refine ZzR ?_ | refine ZzN ?_ | refine ZzB ?_)
 refine RunE.loop (ι := Nat) (fun i => [(0, v), (1, f), (6, v), (7, .int .i64 (l.length : Int)), (8, .int .i64 (i : Int))])
  (fun i w' => i ≤ l.length ∧ (l.take i).any p = false ∧ Ext w w') (fun i => l.length - i) 0 (by repeat (first | exact Sub.nil _ | refine Sub.cons rfl ?_)) ⟨Nat.zero_le _, rfl, X⟩ ?_
 clear X
 rintro i w3 ⟨hi, ha, X⟩ again
 by_cases hlt : i < l.length
 ·obtain ⟨b, o, cap, rfl, hr, hc⟩ := isL_held hv hlt
  obtain ⟨x, hx⟩ : ∃ x, l[i]? = some x := ⟨_, List.getElem?_eq_getElem hlt⟩
  have hrx := flat_row encR hr hx
  have ht : (l.take (i + 1)).any p = p x := by rw [List.take_add_one, hx, List.any_append, ha]; simp
  repeat' (first | (with_reducible refine RunLN.decT ?_ ?_; focus omega) | (with_reducible refine RunLN.chk ?_; refine RunLN.int (by (rfl)) ?_) | refine ZzA ?_ | refine RunL.ev Tryz.tOk rfl rfl rfl ?_ | refine RunL.evV rfl rfl rfl (OpV.loadN Tryz.tOk rfl rfl rfl rfl (hrx.up X)) ?_ | refine RunL.evV rfl rfl rfl (OpV.indexS Tryz.tOk _ rfl rfl rfl rfl (by omega)) ?_ | refine ZzT rfl rfl ?_ | refine ZzQ ?_ | refine ZzR ?_ | refine ZzN ?_ | refine ZzB ?_ | refine ZzK ?_)
  refine RunL.ex rfl rfl rfl (OpE.callV rfl rfl (hf _ x X (List.mem_of_getElem? hx))) ?_
  rintro _ we_ ⟨rfl, Xe_⟩
  replace X := X.trans Xe_
  cases hp : p x with
  | true =>
   repeat' (first | (with_reducible refine RunLN.chk ?_; refine RunLN.int (by (rfl)) ?_) | refine RunL.ev Tryz.tOk rfl rfl rfl ?_ | refine ZzT rfl rfl ?_ | refine ZzQ ?_ | refine ZzR ?_ | refine ZzN ?_)
   exact RunE.retFn Tryz.func89 (.tmp rfl .nil) ⟨.inl ⟨List.any_eq_true.2 ⟨x, List.mem_of_getElem? hx, hp⟩, i, rfl⟩, X⟩
  | false =>
   rw [hp] at ht
   repeat' (first | (with_reducible refine RunLN.chk ?_; refine RunLN.int (by (first | (refine wr_i64 ?_ ?_; omega; omega) | rfl)) ?_) | refine RunL.ev Tryz.tOk rfl rfl rfl ?_ | refine ZzF rfl rfl ?_ | refine ZzR ?_ | refine ZzN ?_ | refine ZzI ?_ | refine ZzK ?_)
   exact RunE.weaken (by repeat (first | exact Sub.nil _ | refine Sub.cons rfl ?_)) (again (i + 1) _ (by omega) ⟨by omega, ht, X⟩)
 ·obtain rfl : i = l.length := by omega
  rw [List.take_length] at ha
  repeat' (first | (with_reducible refine RunLN.decF ?_ ?_; focus omega) | (with_reducible refine RunLN.chk ?_; refine RunLN.int (by (rfl)) ?_) | refine RunL.ev Tryz.tOk rfl rfl rfl ?_ | refine ZzF rfl rfl ?_ | refine ZzQ ?_ | refine ZzR ?_ | refine ZzN ?_ | refine RunE.exit rfl ?_)
  exact RunE.retFn Tryz.func89 (.tmp rfl .nil) ⟨.inr ⟨ha, rfl⟩, X⟩
theorem drcontainsFunc_ok (l : List Dr) (v f : Value) (p : Dr → Bool) (w : World) (hv : IsL w Dr.cells 39 v l) (hl : l.length < 9223372036854775808)
  (hf : ∀ (w' : World) (x : Dr), Ext w w' → x ∈ l → FnV Tryz.prog f [.agg (Dr.cells x).toArray] w' (fun r w'' => r = .bool (p x) ∧ Ext w' w'') fun _ _ => False) :
  Rets Tryz.prog 60 [v, f] w fun r w' => r = .bool (l.any p) ∧ Ext w w' := by
 refine RetsX.of (nt := 9) Tryz.func60 (by kernel_rfl) rfl rfl (by simp) (by simp only [argEnv]; rfl) ?_
 repeat' (first | with_reducible refine ZzG rfl ?_ | refine ZzA ?_ | refine RunL.ev Tryz.tOk rfl rfl rfl ?_ | refine ZzQ ?_ | refine ZzR ?_ | refine ZzN ?_)
 refine RunL.call rfl rfl rfl (drindexFunc_ok l v f p w hv hl hf) ?_
 rintro _ w1 ⟨⟨ha, i, rfl⟩ | ⟨ha, rfl⟩, X⟩
 ·rw [ha]
  repeat' (first | with_reducible refine ZzP rfl ?_ | refine RunL.ev Tryz.tOk rfl rfl rfl ?_ | refine ZzN ?_)
  exact RunE.retFn Tryz.func60 (.tmp rfl .nil) ⟨rfl, X⟩
 ·rw [ha]
  repeat' (first | with_reducible refine ZzG rfl ?_ | refine RunL.ev Tryz.tOk rfl rfl rfl ?_ | refine ZzN ?_)
  exact RunE.retFn Tryz.func60 (.tmp rfl .nil) ⟨rfl, X⟩
end Go.Sg
end
section
/- Structs whose fields are numbers, bools and texts. -/
set_option maxRecDepth 4000
namespace Go.Rn
open Go.RowKit Go.ChangeShapes Go.WideShapes
inductive FK where
 | int (k : IntKind)
 | bool
 | str
def FK.desc : FK → TypeDesc
 | .int k => .int k
 | .bool => .bool
 | .str => .string
def FK.ok : FK → Value → Prop
 | .int k, v => ∃ n, v = .int k n
 | .bool, v => ∃ b, v = .bool b
 | .str, v => ∃ s, v = .string s
def FK.wf : FK → Value → Prop
 | .int k, v => ∃ n, v = .int k n ∧ (Lit.int k n).wf = true
 | .bool, v => ∃ b, v = .bool b
 | .str, v => ∃ s : ByteArray, v = .string s ∧ s.size ≤ maxLen
def veq : Value → Value → Bool
 | .int _ a, .int _ b => a == b
 | .bool a, .bool b => a == b
 | .string a, .string b => a.toList == b.toList
 | _, _ => false
def eqAll : List Value → List Value → Bool
 | [], [] => true
 | a :: r, b :: s => veq a b && eqAll r s
 | _, _ => false
/-- A struct type with such fields, one cell each. -/
structure Flat (P : Program) (t : TypeId) (ts : List (TypeId × FK)) : Prop where
 und : P.underlying t = some (.struct (P.fieldsOf t))
 fields : (P.fieldsOf t).toList.map (fun f => ((f.name == "_"), f.type, f.offset)) = ts.zipIdx.map fun x => (false, x.1.1, x.2)
 held : P.stoodInHeld t = false
 guard : P.eqGuardType P.depth t = false
 cells : P.cellsOf t = ts.length
 kinds : ∀ x ∈ ts, P.underlying x.1 = some x.2.desc ∧ cellsAgg P x.1 = some (1, false) ∧ P.cellsOf x.1 = 1
variable {P : Program} {w : World}
theorem run_eqFlat {d : Nat} (xs ys : List Value) : ∀ (fs : List Field) (ts : List (TypeId × FK)) (k : Nat), fs.map (fun f => ((f.name == "_"), f.type, f.offset)) = (ts.zipIdx k).map (fun x => (false, x.1.1, x.2)) →
  (∀ x ∈ ts, P.underlying x.1 = some x.2.desc ∧ cellsAgg P x.1 = some (1, false) ∧ P.cellsOf x.1 = 1) → xs.length = k + ts.length → ys.length = k + ts.length →
  (∀ (i : Nat) (x : TypeId × FK), ts[i]? = some x → ∃ u v, xs[k + i]? = some u ∧ ys[k + i]? = some v ∧ x.2.ok u ∧ x.2.ok v) → (Op.eqFields (d + 1) xs.toArray ys.toArray fs).run P w = .ok (eqAll (xs.drop k) (ys.drop k)) w
 | [], [], k, _, _, hx, hy, _ => by
  rw [List.drop_eq_nil_of_le (by simp at hx; omega), List.drop_eq_nil_of_le (by simp at hy; omega)]; rfl
 | [], t :: ts, k, h, _, _, _, _ => by simp at h
 | f :: fs, [], k, h, _, _, _, _ => by simp at h
 | f :: fs, x :: ts, k, h, hk, hx, hy, hv => by
  simp only [List.map_cons, List.zipIdx_cons, List.cons.injEq, Prod.mk.injEq] at h
  obtain ⟨⟨n0, t0, o0⟩, hr⟩ := h
  have n0' : f.name ≠ "_" := by simpa using n0
  obtain ⟨u, v, hu, hv', ku, kv⟩ := hv 0 x rfl
  obtain ⟨hd, hc, -⟩ := hk x List.mem_cons_self
  rw [Nat.add_zero] at hu hv'
  have pu : (part f.type xs.toArray f.offset).run P w = .ok u w := by rw [t0, o0]; exact run_part hc _ _ (by simpa using hu)
  have pv : (part f.type ys.toArray f.offset).run P w = .ok v w := by rw [t0, o0]; exact run_part hc _ _ (by simpa using hv')
  have pe : (Op.equalIn (d + 1) f.type u v).run P w = .ok (veq u v) w := by
   rw [t0]
   obtain ⟨ti, kd⟩ := x
   cases kd with
   | int kk => obtain ⟨a, rfl⟩ := ku; obtain ⟨b, rfl⟩ := kv; exact run_equalIn_int w d ti kk kk a b hd
   | bool => obtain ⟨a, rfl⟩ := ku; obtain ⟨b, rfl⟩ := kv; exact run_equalIn_bool w d ti a b hd
   | str => obtain ⟨a, rfl⟩ := ku; obtain ⟨b, rfl⟩ := kv; exact run_equalIn_string w d ti a b hd
  have hkx : k < xs.length := by rw [hx]; simp
  have hky : k < ys.length := by rw [hy]; simp
  have e1 : xs.drop k = u :: xs.drop (k + 1) := by rw [List.drop_eq_getElem_cons hkx]; rw [List.getElem?_eq_getElem hkx] at hu; injection hu with hu; rw [hu]
  have e2 : ys.drop k = v :: ys.drop (k + 1) := by rw [List.drop_eq_getElem_cons hky]; rw [List.getElem?_eq_getElem hky] at hv'; injection hv' with hv'; rw [hv']
  have ih := run_eqFlat (d := d) xs ys fs ts (k + 1) hr (fun y hy => hk y (List.mem_cons_of_mem _ hy)) (by rw [hx, List.length_cons]; omega) (by rw [hy, List.length_cons]; omega)
   (fun i y hi => by obtain ⟨u, v, h1, h2, h3⟩ := hv (i + 1) y hi; exact ⟨u, v, by rw [← h1]; congr 1; omega, by rw [← h2]; congr 1; omega, h3⟩)
  simp only [Op.eqFields, n0', ne_eq, not_false_eq_true, if_true]
  rw [run_bind _ _ pu, run_bind _ _ pv, run_bind _ _ pe, e1, e2]
  simp only [eqAll]
  cases hb : veq u v with
  | false => rfl
  | true => simp only [Bool.not_true, Bool.false_eq_true, if_false, Bool.true_and]; exact ih
/-- The cells fit. -/
def fits (ts : List (TypeId × FK)) (cs : List Value) : Prop := cs.length = ts.length ∧ ∀ (i : Nat) (x : TypeId × FK), ts[i]? = some x → ∃ u, cs[i]? = some u ∧ x.2.ok u
theorem Flat.run {t : TypeId} {ts : List (TypeId × FK)} (h : Flat P t ts) {xs ys : List Value} (hx : fits ts xs) (hy : fits ts ys) :
  (Op.equalIn 10000 t (.agg xs.toArray) (.agg ys.toArray)).run P w = .ok (eqAll xs ys) w := by
 rw [show (10000 : Nat) = 9999 + 1 from rfl, run_equalIn_struct w 9999 _ _ _ h.und h.held]
 have := run_eqFlat (P := P) (w := w) (d := 9998) xs ys (P.fieldsOf t).toList ts 0 h.fields h.kinds (by rw [hx.1]; omega) (by rw [hy.1]; omega) (fun i x hi => by
  obtain ⟨u, h1, h2⟩ := hx.2 i x hi
  obtain ⟨v, h3, h4⟩ := hy.2 i x hi
  exact ⟨u, v, by rw [Nat.zero_add]; exact h1, by rw [Nat.zero_add]; exact h3, h2, h4⟩)
 simpa using this
variable {env : Env} {dst : Option Tmp} {ty : TypeId} {pos : String} {after : Array Edge} {guard : Option (Nat × Bool)}
theorem OpV.eqFlat {t u : TypeId} {ts : List (TypeId × FK)} (h : Flat P t ts) {x y : Operand} {xs ys : List Value} (hx : evO env x = some (.agg xs.toArray)) (hy : evO env y = some (.agg ys.toArray)) (h1 : fits ts xs) (h2 : fits ts ys) :
  OpV P env w ⟨dst, .binOp .eql t x y u, ty, pos, after, guard⟩ (.bool (eqAll xs ys)) := .of_run fun ρ hρ => by
 refine ⟨_, by simp only [execOp, hρ _ _ hx, hρ _ _ hy]; rfl, ?_⟩
 rw [run_bind _ _ (run_eqGuard_agg w .eql t x y _ _ h.guard), run_eql_struct, h.run h1 h2]; rfl
end Go.Rn
end
section
/- Maps whose keys are structs of numbers, bools and texts. -/
set_option maxRecDepth 4000
namespace Go.Rn
open Go.RowKit
section
variable {P : Program} {w : World} {α : Type} [DecidableEq α] {enc : α → List Value} {kt : TypeId} {ts : List (TypeId × FK)}
def encV' (enc : α → List Value) (a : α) : Value := .agg (enc a).toArray
theorem findAskingF_ok (h : Flat P kt ts) (hf : ∀ a, fits ts (enc a)) (he : ∀ a b, eqAll (enc a) (enc b) = decide (a = b)) (k : α) : ∀ (es : List MapEntry) (m : List (α × Value)) (i : Nat), entsOk (encV' enc) (fun _ => True) es m →
  ∃ r, (Instr.findAsking kt (encV' enc k) es i).run P w = .ok r w ∧ Found (encV' enc) (fun _ => True) k es m i r
 | [], m, i, hm => ⟨none, rfl, found_nil k i hm⟩
 | x :: es, m, i, hm => by
  obtain ⟨j, u, m', -, hkj, hg, hr, h1, h2⟩ := found_cons (k := k) (i := i) trivial hm
  have hq : (Op.equal kt (encV' enc k) (encV' enc j)).run P w = .ok (eqAll (enc k) (enc j)) w := h.run (hf k) (hf j)
  simp only [Instr.findAsking]
  rw [hkj, run_bind _ _ hq, he]
  by_cases hh : k = j
  ·rw [decide_eq_true hh]
   exact ⟨some (i, x.val), rfl, h1 hh⟩
  ·rw [decide_eq_false hh]
   obtain ⟨r, h3, h4⟩ := findAskingF_ok h hf he k es m' (i + 1) hr
   exact ⟨r, h3, h2 hh r h4⟩
theorem run_checkF (n : Nat) (b : Bool) (cs : List Value) : ∀ (fs : List Field) (ts : List (TypeId × FK)) (k : Nat), fs.map (fun f => ((f.name == "_"), f.type, f.offset)) = (ts.zipIdx k).map (fun x => (false, x.1.1, x.2)) →
  (∀ x ∈ ts, P.underlying x.1 = some x.2.desc ∧ cellsAgg P x.1 = some (1, false) ∧ P.cellsOf x.1 = 1) → (∀ (i : Nat) (x : TypeId × FK), ts[i]? = some x → ∃ u, cs[k + i]? = some u ∧ x.2.ok u) →
  (forIn (m := Sem) fs PUnit.unit fun f _ => if f.name ≠ "_" then do Instr.checkKey b (n + 1) f.type (← part f.type cs.toArray f.offset); pure (ForInStep.yield PUnit.unit) else pure (ForInStep.yield PUnit.unit)).run P w = .ok PUnit.unit w
 | [], _, _, _, _, _ => rfl
 | f :: fs, [], k, h, _, _ => by simp at h
 | f :: fs, x :: ts, k, h, hk, hv => by
  simp only [List.map_cons, List.zipIdx_cons, List.cons.injEq, Prod.mk.injEq] at h
  obtain ⟨⟨n0, t0, o0⟩, hr⟩ := h
  have n0' : f.name ≠ "_" := by simpa using n0
  obtain ⟨u, hu, ku⟩ := hv 0 x rfl
  obtain ⟨hd, hc, -⟩ := hk x List.mem_cons_self
  rw [Nat.add_zero] at hu
  have pu : (part f.type cs.toArray f.offset).run P w = .ok u w := by rw [t0, o0]; exact run_part hc _ _ (by simpa using hu)
  have hchk : (Instr.checkKey b (n + 1) f.type u).run P w = .ok () w := by
   rw [t0]
   unfold Instr.checkKey
   rw [run_bind _ _ (run_underlying hd)]
   obtain ⟨ti, kd⟩ := x
   cases kd <;> rfl
  have ih := run_checkF n b cs fs ts (k + 1) hr (fun y hy => hk y (List.mem_cons_of_mem _ hy)) (fun i y hi => by obtain ⟨u, h1, h3⟩ := hv (i + 1) y hi; exact ⟨u, by rw [← h1]; congr 1; omega, h3⟩)
  rw [List.forIn_cons]
  refine Eq.trans (run_bind (v := ForInStep.yield PUnit.unit) (w' := w) _ _ ?_) ih
  rw [if_pos n0', run_bind _ _ pu, run_bind _ _ hchk]
  rfl
theorem sameBits_flat {x : FK} {u : Value} (n : Nat) (h : x.ok u) : Instr.sameBits (n + 1) u u = true := by
 cases x with
 | int k => obtain ⟨a, rfl⟩ := h; simp [Instr.sameBits]
 | bool => obtain ⟨a, rfl⟩ := h; simp [Instr.sameBits]
 | str =>
  obtain ⟨a, rfl⟩ := h
  simp only [Instr.sameBits]
  obtain ⟨d⟩ := a
  show (d == d) = true
  simp
theorem keyOk_flat (h : Flat P kt ts) (hf : ∀ a, fits ts (enc a)) (he : ∀ a b, eqAll (enc a) (enc b) = decide (a = b)) : KeyOk P kt (encV' enc) fun _ => True where
 find w k es m hk hm := by
  unfold Instr.findKey
  cases es with
  | nil =>
   refine ⟨none, ?_, found_nil k 0 hm⟩
   rw [run_bind _ _ (run_underlying h.und)]; rfl
  | cons x es =>
   obtain ⟨r, h1, h2⟩ := findAskingF_ok (w := w) h hf he k (x :: es) m 0 hm
   refine ⟨r, ?_, h2⟩
   rw [run_bind _ _ (run_underlying h.und)]
   exact h1
 check w k b hk := by
  show (Instr.checkKey b (9999 + 1) kt (.agg (enc k).toArray)).run P w = _
  unfold Instr.checkKey
  rw [run_bind _ _ (run_underlying h.und)]
  simp only
  have := run_checkF (P := P) (w := w) 9998 b (enc k) (P.fieldsOf kt).toList ts 0 h.fields h.kinds (fun i x hi => by obtain ⟨u, h1, h2⟩ := (hf k).2 i x hi; exact ⟨u, by rw [Nat.zero_add]; exact h1, h2⟩)
  rw [← Array.forIn_toList]
  exact run_bind _ _ this |>.trans rfl
 same k _ := by
  show Instr.sameBits (9999 + 1) (.agg (enc k).toArray) (.agg (enc k).toArray) = true
  simp only [Instr.sameBits, beq_self_eq_true, Bool.true_and]
  rw [List.all_eq_true]
  rintro ⟨a, b⟩ hx
  obtain ⟨i, hi⟩ := List.getElem?_of_mem hx
  rw [List.getElem?_zip_eq_some] at hi
  have hab : a = b := Option.some.inj (hi.1.symm.trans hi.2)
  subst hab
  have hi := hi.1
  have hl : i < ts.length := by
   have := (List.getElem?_eq_some_iff.1 hi).1
   have := (hf k).1
   simp at *; omega
  obtain ⟨u, h1, h2⟩ := (hf k).2 i ts[i] (List.getElem?_eq_getElem hl)
  have : u = a := by
   have hi' : (enc k)[i]? = some a := by simpa using hi
   rw [h1] at hi'; exact Option.some.inj hi'
  subst this
  exact sameBits_flat 9998 h2
end
end Go.Rn
end
