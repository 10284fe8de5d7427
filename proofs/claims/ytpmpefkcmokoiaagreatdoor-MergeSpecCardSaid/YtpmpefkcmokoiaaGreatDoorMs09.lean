/- Parts of this project that the claims share: Mer7, Mer8, Ref11, Ref11B, Dee7, Mer9, Mef1. -/
import Derived.Test.YtpmpefkcmokoiaaGreatDoorMs08
import Derived.Test.YtpmpefkcmokoiaaGreatDoorMs06
import Derived.Test.YtpmpefkcmokoiaaGreatDoorMs07
import Derived.Test.YtpmpefkcmokoiaaGreatDoorMs03
import Derived.Test.YtpmpefkcmokoiaaGreatDoorMs04
set_option linter.unusedSimpArgs false
set_option linter.unusedVariables false
set_option linter.unusedSectionVars false
section
/- Merge: Merge. -/
set_option maxRecDepth 4000
namespace Go.Mer
open Go.Rn Go.Rec Go.Dee Go.RowKit Go.Sg Go.NT
theorem chkM_zero {ks : List Int} {ls : List Ll} (h : chkM ks ls = 0) : keysD ks = true ∧ ls.length ≤ 64 ∧ lenD ls ≤ 4096 := by
 unfold chkM at h
 split at h
 ·rename_i hk
  split at h
  ·cases h
  ·exact ⟨hk, by omega, by omega⟩
 ·cases h
theorem leftR_fine {ks : List Int} {L : List Dr} {y : Dr} (h : y ∈ leftL Dr.d ks L) : fineD ks y.d = true := by
 have h2 : y.d ∈ leftD ks (L.map Dr.d) := by
  show y.d ∈ leftL id ks (L.map Dr.d)
  rw [← leftL_map]
  exact List.mem_map.2 ⟨y, h, rfl⟩
 exact (left_mem _ _ h2).2
end Go.Mer
namespace Go.Sg
open Go.Rn Go.Proofs Go.Dee Go.Mer Go.Rec Go.RowKit Go.Sha Go.Cod Go.NT
theorem ent_held {w : World} {base : Nat} {m : List ((Int × Int) × Value)} {out : List Dr} (hG : GrpL w base m out) (hn : (m.map (·.1)).Nodup) {y : (Int × Int) × Value} (hy : y ∈ m) : (entL out y).v = y.2 ∧ LDr w y.2 (grpD out y.1) := by
 obtain ⟨k, a⟩ := y
 have hg := getM_of_mem hn hy
 have h := isSl_own (hG.own k)
 rw [hg, Option.getD_some] at h
 obtain ⟨d, c, e⟩ := isSl_slice h
 subst e
 exact ⟨rfl, h⟩
theorem grp_keys {w : World} {base : Nat} {m : List ((Int × Int) × Value)} {out : List Dr} (hG : GrpL w base m out) : ∀ x ∈ out, (x.d.person, x.d.no) ∈ m.map (·.1) := fun x hx => by
 refine getM_isSome.1 ?_
 have h := hG.get (x.d.person, x.d.no)
 cases hg : getM (x.d.person, x.d.no) m with
 | none =>
  rw [hg] at h
  have : x ∈ grpD out (x.d.person, x.d.no) := List.mem_filter.2 ⟨hx, by simp⟩
  rw [h] at this
  cases this
 | some v => rfl
/-- What the pass of Merge keeps. -/
structure PassSt (w w' : World) (R17 R18 R19 : Nat) (m17 m18 : List (Int × Value)) (m19 : List (List UInt8 × Value)) (u : Value) (out : List Dr) : Prop where
 X : ExtB (fun k => k = R17 ∨ k = R18 ∨ k = R19) w w'
 M17 : MapK (Value.int .i64) (fun _ => True) w' R17 m17
 M18 : MapK (Value.int .i64) (fun _ => True) w' R18 m18
 M19 : MDg w' R19 m19
 L : LastOk m17 (out.map Dr.d)
 N : NextOk m18 (out.map Dr.d)
 B : ByOk w' w.heap.size m19 (out.map Dr.d)
 O : w'.ownsRow w.heap.size 38 39 u out.length (flat Dr.cells out)
theorem PassSt.up {w w' w'' : World} {R17 R18 R19 : Nat} {m17 m18 : List (Int × Value)} {m19 : List (List UInt8 × Value)} {u : Value} {out : List Dr} (h : PassSt w w' R17 R18 R19 m17 m18 m19 u out) (e : Ext w' w'') : PassSt w w'' R17 R18 R19 m17 m18 m19 u out :=
 ⟨h.X.trans (ExtB.of_ext e), h.M17.up e, h.M18.up e, h.M19.up e, h.L, h.N, h.B.up e, World.ownsRow.up h.O e⟩
theorem keyInt : KeyOk Tryz.prog 3 (Value.int .i64) fun _ => True := keyOk_int Tryz.underlying3
attribute [local irreducible] leftL passL keysD fineD stepD chkM mergeD Go.Rn.RetsX Go.Rn.RunLN Go.Rn.AsyN Go.Rn.RunL Go.Rn.RunE Go.Rn.Asy Go.Rn.OpV Go.Rn.OpE Go.Rn.ExecE
set_option maxRecDepth 8000 in
set_option maxHeartbeats 16000000 in
theorem mMerge_ok (ks : List Int) (kv : Value) (ls : List Ll) (lv : Value) (w : World) (hk : LIn w kv ks) (hkl : ks.length < 9223372036854775808) (hki : KsI ks) (hv : LLl w lv ls) (hl : ls.length < 9223372036854775808)
  (hp : ∀ x ∈ ls, LDr w x.v x.l) (hd : ∀ x ∈ allD ls, WfX w x) (hn : lenD ls < 9223372036854775808) (hS : Row w 0 0 (vals init8.l)) (hkT : Row w 1 0 (vals kTab)) :
  Rets Tryz.prog 12 [kv, lv] w fun r w' => (∃ u out, r = .tuple #[u, .int .i64 (chkM ks ls)] ∧ LDr w' u out ∧ out.map Dr.d = (if chkM ks ls = 0 then mergeD ks ((allD ls).map Dr.d) else []) ∧ ∀ x ∈ out, x ∈ allD ls) ∧ Ext w w' := by
 refine RetsX.of (nt := 142) Tryz.func12 (by kernel_rfl) rfl rfl (by simp) (by simp only [argEnv]; rfl) ?_
 have X := ExtB.refl (fun _ => False) w
 repeat' (first | (with_reducible refine RunLN.chk ?_; refine RunLN.int (by (rfl)) ?_) | refine ZzA ?_ | refine RunL.ev Tryz.tOk rfl rfl rfl ?_ | refine ZzQ ?_ | refine ZzR ?_ | refine ZzN ?_)
 refine RunL.call rfl rfl rfl (mcheck_ok ks kv ls lv _ (hk.up X) hkl hki (hv.up X) hl hn (hS.up X) (hkT.up X)) ?_
 rintro _ wc ⟨rfl, Xa_⟩
 replace X := X.trans Xa_
 clear Xa_
 by_cases hc : chkM ks ls = 0
 rotate_left
 ·generalize chkM ks ls = ce at hc
  repeat' (first | (with_reducible refine RunLN.neT ?_ ?_; focus omega) | (with_reducible refine RunLN.chk ?_; refine RunLN.int (by (rfl)) ?_) | refine ZzA ?_ | refine RunL.ev Tryz.tOk rfl rfl rfl ?_ | refine ZzT rfl rfl ?_ | refine ZzQ ?_ | refine ZzR ?_ | refine ZzN ?_)
  exact RunE.retFn Tryz.func12 (.tmp rfl (.tmp rfl .nil)) ⟨⟨nilV, [], rfl, IsSl.nil, by rw [if_neg hc]; rfl, fun x hx => by cases hx⟩, X⟩
 obtain ⟨hkd, hl64, hn4⟩ := chkM_zero hc
 rw [hc]
 clear hc hn
 repeat' (first | with_reducible refine ZzG rfl ?_ | (with_reducible refine RunLN.chk ?_; refine RunLN.int (by (rfl)) ?_) | refine ZzA ?_ | refine RunL.ev Tryz.tOk rfl rfl rfl ?_ | refine ZzF rfl rfl ?_ | refine ZzQ ?_ | refine ZzR ?_ | refine ZzN ?_ | refine ZzK ?_)
 refine RunL.call rfl rfl rfl (mleft_ok ks kv ls lv _ (hk.up X) hkl hki hkd (hv.up X) hl (fun x hx => (hp x hx).up X) (fun x hx => (hd x hx).up X) hn4 (hS.up X) (hkT.up X)) ?_
 rintro _ w1 ⟨⟨R7, m, rfl, gR7, hM, hG, hN, hC⟩, Xa_⟩
 replace gR7 := Nat.le_trans X.size gR7
 have hb7 := X.size
 generalize wc.heap.size = b7 at hG hb7
 replace X := X.trans Xa_
 clear Xa_
 have hol : (leftL Dr.d ks (allD ls)).length ≤ 4096 := by
  have := leftL_len Dr.d ks (allD ls)
  rw [allD_len] at this; omega
 have hos : ∀ y ∈ leftL Dr.d ks (allD ls), y ∈ allD ls := fun y hy => leftL_sub Dr.d hy
 have hform : ∀ y ∈ leftL Dr.d ks (allD ls), 0 ≤ y.d.person ∧ y.d.person < 64 := fun y hy => by
  obtain ⟨⟨p0, p1, -⟩, -⟩ := formedD_inv (fineD_inv (leftR_fine hy)).1
  exact ⟨p0, p1⟩
 have hfin := fun s h1 h2 => sorted_srt ks (allD ls) s h1 h2
 generalize leftL Dr.d ks (allD ls) = out at hG hC hol hos hform hfin
 have hend := endM_all hform
 repeat' (first | refine ZzA ?_ | refine RunL.ev Tryz.tOk rfl rfl rfl ?_ | refine ZzQ ?_ | refine ZzR ?_ | refine ZzN ?_)
 refine RunL.ex rfl rfl rfl (OpE.makeMap (Value.int .i64) (fun _ => True)) ?_
 rintro _ w2 ⟨R8, rfl, a, hM8⟩
 have gR8 := a.ge X
 have n78 : R7 ≠ R8 := by have := hM.lt; have := a.eq; omega
 replace hM := hM.up a.ext
 replace hG := hG.up a.ext
 replace X := X.trans a.ext
 clear a
 skip
 refine RunL.alloc Tryz.tOk rfl rfl rfl fun B8 wa_ aa_ => ?_
 have gB8 := aa_.ge X
 refine RunL.store Tryz.tOk rfl rfl rfl rfl rfl (cs := [.map none]) aa_.at_ rfl rfl fun w8_ tb_ => ?_
 have Xa_ : Ext _ w8_ := aa_.ext.write tb_.ext (by intro i_ hi_ hlt_; have := aa_.eq; omega)
 have Z8 : Blk w8_ B8 ([.map (some R8)]) 50 := tb_.at_
 replace hM := hM.up Xa_
 replace hG := hG.up Xa_
 replace hM8 := hM8.up Xa_
 replace X := X.trans Xa_
 clear Xa_ aa_ tb_
 have n88 : B8 ≠ R8 := fun e => by
  obtain ⟨es, c, h', -⟩ := hM8
  rw [← e, Z8] at h'; cases h'
 repeat' (first | refine ZzA ?_ | refine RunL.ev Tryz.tOk rfl rfl rfl ?_ | refine ZzQ ?_ | refine ZzR ?_ | refine ZzN ?_)
 refine RunL.call rfl rfl rfl (mforked_ok R7 _) ?_
 rintro _ w3 ⟨⟨bf, rfl, Zf⟩, Xa_⟩
 replace hM := hM.up Xa_
 replace hG := hG.up Xa_
 replace hM8 := hM8.up Xa_
 replace Z8 := Z8.up Xa_
 replace X := X.trans Xa_
 clear Xa_
 have nf8 : bf ≠ R8 := fun e => by
  obtain ⟨es, c, h', -⟩ := hM8
  rw [← e, Zf] at h'; cases h'
 have hX3 := X.size
 have lR8 := hM8.lt
 have lB8 := Z8.lt
 repeat' (first | refine ZzN ?_ | refine ZzB ?_)
 refine RunE.rangeGives (w0 := w3) (F := fun k => k = bf ∨ k = R7) rfl ⟨_, Tryz.func12⟩ rfl (forked_gives out m R7 bf b7 w3 hM hG Zf) (fun k => k = R8) (fun k hk => by
   rcases hk with rfl | rfl
   ·exact ⟨nf8, Zf.lt⟩
   ·exact ⟨n78, hM.lt⟩) (ExtB.refl _ _) (fun xs hxs => ?_) rfl
  (fun j w' => ExtB (fun k => k = R8) w3 w' ∧ MapK (Value.int .i64) (fun _ => True) w' R8 (endM ((forkTo out 64).take j))) ?_ ?_ ?_ ?_ ?_
 ·obtain ⟨a, -, rfl⟩ := List.mem_map.1 hxs; rfl
 ·intro w4 e _; exact ⟨ExtB.of_ext e, hM8.up e⟩
 ·rintro j u ⟨h, -⟩; exact h
 ·rintro j u u' ⟨h, h'⟩ e
  exact ⟨h.write e (by intro k hk hlt; omega), h'.ext e (by omega)⟩
 ·rintro j xs u lp hxs ⟨hE, hM8'⟩ hL hs'
  obtain ⟨⟨p, q⟩, hpq, rfl⟩ : ∃ pq, (forkTo out 64)[j]? = some pq ∧ xs = [.int .i64 (pq.1 : Int), .int .i64 (pq.2 : Int)] := by
   simp only [forkX, List.getElem?_map, Option.map_eq_some_iff] at hxs
   obtain ⟨a, h, rfl⟩ := hxs; exact ⟨a, h, rfl⟩
  have hsn : endM ((forkTo out 64).take (j + 1)) = setM (p : Int) (.int .i64 (q : Int)) (endM ((forkTo out 64).take j)) := by
   rw [List.take_add_one, hpq]; exact endM_snoc _ _
  simp only [parEnv]
  repeat' (first | (with_reducible refine RunLN.chk ?_; refine RunLN.int (by (rfl)) ?_) | refine RunL.ev Tryz.tOk rfl rfl rfl ?_ | refine ZzQ ?_ | refine ZzR ?_ | refine ZzN ?_)
  refine RunE.beginR hL hs' (by omega) fun u3 t3 hL3 => ?_
  have hE3 : ExtB (fun k => k = R8) w3 u3 := hE.write t3 (by intro k hk hlt; omega)
  have hM3 := hM8'.ext t3 (by omega)
  have Y8 := Z8.ext hE3 n88
  repeat' (first | (with_reducible refine RunLN.chk ?_; refine RunLN.int (by (rfl)) ?_) | refine ZzA ?_ | refine RunL.ev Tryz.tOk rfl rfl rfl ?_ | refine RunL.evV rfl rfl rfl (OpV.load1 Tryz.tOk rfl rfl rfl (Blk.cell Y8 rfl)) ?_ | refine ZzR ?_ | refine ZzB ?_)
  refine RunL.exN rfl rfl (OpE.mapSet (kv := Value.int .i64) (good := fun _ => True) (k := (p : Int)) (v := .int .i64 (q : Int)) Tryz.underlying50 keyInt rfl rfl rfl trivial hM3) ?_
  rintro _ u4 ⟨hM4, E4, -⟩
  repeat' (first | refine ZzN ?_ | refine ZzI ?_)
  exact RunE.endR ⟨hE3.trans E4, by rw [hsn]; exact hM4⟩ (hL3.ext E4 (by omega) (by omega))
 rintro w4 ⟨hE, hM4⟩ hD
 have hlenX : (forkX out).length = (forkTo out 64).length := by simp [forkX]
 rw [hlenX, List.take_length] at hM4
 have lD : w3.heap.size < w4.heap.size := lt_of_get hD
 replace hM := hM.ext hE n78
 replace hG : GrpL w4 b7 m out := hG.ext hE (fun k cs _ hk e => by
  subst e
  obtain ⟨es, c, h', -⟩ := hM8
  rw [hk] at h'; cases h')
 replace Z8 := Z8.ext hE n88
 replace X : Ext w w4 := X.write hE (by intro k hk hlt; omega)
 clear hM8 hE Zf nf8 hlenX lR8 lB8
 generalize hDd : w3.heap.size = D at hD lD hX3
 clear hDd
 generalize endM (forkTo out 64) = em at hM4 hend
 have gD : w.heap.size ≤ D := hX3
 repeat' (first | refine ZzA ?_ | refine RunL.ev Tryz.tOk rfl rfl rfl ?_ | refine ZzQ ?_ | refine ZzR ?_ | refine ZzN ?_ | refine ZzI ?_)
 refine RunL.ex rfl rfl rfl (OpE.rangeMap (kv := plV) (good := fun _ => True) Tryz.underlying65 rfl hM) ?_
 rintro _ w5 ⟨it, rfl, hit, hsz5, e5, hI⟩
 replace hM4 := hM4.up e5
 replace hG := hG.up e5
 replace Z8 := Z8.up e5
 replace hD := obj_ext hD e5 id
 replace X := X.trans e5
 have l5 := X.size
 have git : w.heap.size ≤ it := by have := e5.size; omega
 have nD : D ≠ it := by omega
 have n8t : B8 ≠ it := fun e => by
  obtain ⟨es, clock, since, seen, js, a, -⟩ := hI
  rw [← e, Z8] at a; cases a
 have nRt : R8 ≠ it := fun e => by
  obtain ⟨es, clock, since, seen, js, a, -⟩ := hI
  obtain ⟨es', c', h', -⟩ := hM4
  rw [← e, h'] at a; cases a
 have lR7 := hM.lt
 have lit : it < w5.heap.size := by omega
 have hs45 := e5.size
 clear hM e5
 have hGb : ∀ k, k < w5.heap.size → k = it → ∀ cs, w5.heap[k]? ≠ some (.cells cs 38 (0, 0)) := fun k _ e cs hc => by
  subst e
  obtain ⟨es, clock, since, seen, js, a, -⟩ := hI
  rw [hc] at a; cases a
 repeat' (first | refine ZzN ?_ | refine ZzB ?_)
 refine RunE.loop (ι := List ((Int × Int) × Value) × Value) (fun s => [(4, nilV), (5, .int .i64 0), (8, .pointer (some ⟨B8, 0, none⟩)), (11, s.2), (44, .pointer (some ⟨it, 0, none⟩))])
  (fun s w' => ExtB (fun k => k = it) w5 w' ∧ IterAt plV (fun _ => True) w' it R7 m s.1 ∧ w'.ownsRow w5.heap.size 26 1 s.2 (tkL out s.1).length (flat Ll.cells (tkL out s.1))) (fun s => m.length - s.1.length) ([], nilV) (by repeat (first | exact Sub.nil _ | refine Sub.cons rfl ?_)) ⟨ExtB.refl _ _, hI, World.ownsRow_nil _ _ _ _⟩ ?_
 clear hI
 rintro ⟨ys, u⟩ w6 ⟨hE, hI, hO⟩ again
 simp only at hI hO again ⊢
 repeat' (first | refine ZzQ ?_ | refine ZzR ?_)
 refine RunL.ex rfl rfl rfl (OpE.nextMap rfl hI) ?_
 rintro v w7 (⟨rfl, rfl, hpm⟩ | ⟨⟨k, a⟩, rfl, -, hI7, e7, hsz7⟩)
 rotate_left
 ·have hmem : (k, a) ∈ m := by
   obtain ⟨zs, hzs⟩ := hI7.sub
   exact hzs.mem_iff.1 (by simp)
  have hyl : ys.length < m.length := by
   obtain ⟨zs, hzs⟩ := hI7.sub
   have := hzs.length_eq
   simp only [List.length_append, List.length_singleton] at this
   omega
  have hE7 := hE.trans e7
  have hG7 : GrpL w7 b7 m out := hG.ext hE7 (fun k' cs _ hk e => hGb k' (lt_of_get hk) e cs hk)
  obtain ⟨-, haL⟩ := ent_held hG7 hN hmem
  replace haL : LDr w7 a (grpD out k) := haL
  obtain ⟨ad, ac, rfl⟩ := isSl_slice haL
  have hM7 := hM4.ext hE7 nRt
  have Y8 := Z8.ext hE7 n8t
  have hO7 := ownsRow_ext hO e7 (fun k hk h => by have := ownsRow_ge hO hk; omega)
  have hek := hend k.1
  have htk := tk_snoc out ys (k, .slice ad (grpD out k).length ac)
  have htl := tk_len out ys
  have next := fun u' w' h1 h2 h3 => again (ys ++ [(k, .slice ad (grpD out k).length ac)], u') w' (by simp only [List.length_append, List.length_singleton]; omega) ⟨h1, h2, h3⟩
  clear again hG hG7 hM4 Z8 hO hI X hGb hmem haL hend
  have X := ExtB.refl (fun _ => False) w7
  repeat' (first | with_reducible refine ZzP rfl ?_ | refine RunL.ev Tryz.tOk rfl rfl rfl ?_ | refine ZzT rfl rfl ?_ | refine ZzQ ?_ | refine ZzR ?_ | refine ZzN ?_ | refine ZzB ?_ | refine ZzK ?_)
  refine RunL.evV rfl rfl rfl (OpV.entryMap rfl hI7) ?_
  repeat' (first | refine ZzA ?_ | refine RunL.ev Tryz.tOk rfl rfl rfl ?_)
  refine RunL.alloc Tryz.tOk rfl rfl rfl fun B12 wa_ aa_ => ?_
  have gB12 := aa_.ge X
  refine RunL.storeW (vs := plC k) Tryz.tOk rfl rfl rfl rfl rfl aa_.at_ rfl rfl fun w12_ tb_ => ?_
  have Xa_ : Ext _ w12_ := aa_.ext.write tb_.ext (by intro i_ hi_ hlt_; have := aa_.eq; omega)
  have Z12 : Blk w12_ B12 (plC k) 71 := tb_.at_
  replace hI7 := hI7.up Xa_
  replace hM7 := hM7.up Xa_
  replace Y8 := Y8.up Xa_
  replace hO7 := hO7.up Xa_
  replace X := X.trans Xa_
  clear Xa_ aa_ tb_
  repeat' (first | (with_reducible refine RunLN.chk ?_; refine RunLN.int (by (rfl)) ?_) | refine ZzA ?_ | refine RunL.ev Tryz.tOk rfl rfl rfl ?_ | refine RunL.evV rfl rfl rfl (OpV.load1 Tryz.tOk rfl rfl rfl (Blk.cell Y8 rfl)) ?_ | refine RunL.evV rfl rfl rfl (OpV.load1 Tryz.tOk rfl rfl rfl (Blk.cell Z12 rfl)) ?_ | refine ZzQ ?_ | refine ZzR ?_ | refine ZzN ?_)
  refine RunL.evV rfl rfl rfl (OpV.lookup2 (kv := Value.int .i64) (good := fun _ => True) (k := k.1) (z := .int .i64 0) Tryz.underlying50 keyInt (by kernel_rfl) rfl rfl trivial hM7) ?_
  rw [hek]
  cases hf : forkL Dr.d out k.1 with
  | none =>
   have hkp : keptK out k = true := by unfold keptK; rw [hf]
   simp only [Option.map_none, Option.getD_none, Option.isSome_none]
   repeat' (first | with_reducible refine ZzP rfl ?_ | with_reducible refine ZzG rfl ?_ | refine ZzA ?_ | refine RunL.ev Tryz.tOk rfl rfl rfl ?_ | refine RunL.unwantedD rfl rfl ?_ | refine ZzT rfl rfl ?_ | refine ZzQ ?_ | refine ZzR ?_ | refine ZzN ?_)
   simp only [hkp, if_true] at htk
   refine RunL.ex rfl rfl rfl (OpE.buildSl Tryz.tOk [.slice ad (grpD out k).length ac] rfl rfl rfl rfl rfl rfl (by simp [Value.cells])) ?_
   rintro _ w9 ⟨B9, rfl, a9⟩
   have hx1 : LLl w9 (.slice (some ⟨B9, 0, none⟩) 1 1) [entL out (k, .slice ad (grpD out k).length ac)] := isSl_added (n := 1) (sz := 1) a9 rfl
   replace hI7 := hI7.up a9.ext
   replace hO7 := hO7.up a9.ext
   replace X := X.trans a9.ext
   clear a9
   have hs9 : w5.heap.size ≤ w9.heap.size := Nat.le_trans hE7.size X.size
   skip
   refine RunL.ex rfl rfl rfl (OpE.append' Tryz.tOk rfl rfl rfl rfl rfl rfl hO7 hx1 (flat_plain encLl _) (by show _ * 24 ≤ _; simp only [List.length_singleton]; omega) (by simp only [List.length_singleton]; omega) hs9) ?_
   rintro u' w10 ⟨O10, E10, -⟩
   have hE10 : ExtB (fun k => k = it) w5 w10 := (hE7.trans (ExtB.of_ext X)).write E10 (by intro k hk hlt; have := ownsRow_ge hO7 hk; omega)
   have hI10 := hI7.ext E10 (fun h => by have := ownsRow_ge hO7 h; omega) (fun h => by have := ownsRow_ge hO7 h; omega)
   repeat' (first | refine ZzA ?_ | refine RunL.ev Tryz.tOk rfl rfl rfl ?_ | refine ZzN ?_ | refine ZzI ?_)
   exact RunE.weaken (by repeat (first | exact Sub.nil _ | refine Sub.cons rfl ?_)) (next _ _ hE10 hI10 (by rw [htk, List.length_append, flat_append]; exact O10))
  | some q =>
   simp only [Option.map_some, Option.getD_some, Option.isSome_some]
   by_cases hq : k.2 < (q : Int)
   ·have hkp : keptK out k = true := by unfold keptK; rw [hf]; exact decide_eq_true hq
    repeat' (first | with_reducible refine ZzP rfl ?_ | with_reducible refine ZzG rfl ?_ | (with_reducible refine RunLN.decT ?_ ?_; focus omega) | (with_reducible refine RunLN.chk ?_; refine RunLN.int (by (rfl)) ?_) | refine ZzA ?_ | refine RunL.ev Tryz.tOk rfl rfl rfl ?_ | refine RunL.evV rfl rfl rfl (OpV.load1 Tryz.tOk rfl rfl rfl (Blk.cell Z12 rfl)) ?_ | refine ZzT rfl rfl ?_ | refine ZzQ ?_ | refine ZzR ?_ | refine ZzN ?_)
    simp only [hkp, if_true] at htk
    refine RunL.ex rfl rfl rfl (OpE.buildSl Tryz.tOk [.slice ad (grpD out k).length ac] rfl rfl rfl rfl rfl rfl (by simp [Value.cells])) ?_
    rintro _ w9 ⟨B9, rfl, a9⟩
    have hx1 : LLl w9 (.slice (some ⟨B9, 0, none⟩) 1 1) [entL out (k, .slice ad (grpD out k).length ac)] := isSl_added (n := 1) (sz := 1) a9 rfl
    replace hI7 := hI7.up a9.ext
    replace hO7 := hO7.up a9.ext
    replace X := X.trans a9.ext
    clear a9
    have hs9 : w5.heap.size ≤ w9.heap.size := Nat.le_trans hE7.size X.size
    skip
    refine RunL.ex rfl rfl rfl (OpE.append' Tryz.tOk rfl rfl rfl rfl rfl rfl hO7 hx1 (flat_plain encLl _) (by show _ * 24 ≤ _; simp only [List.length_singleton]; omega) (by simp only [List.length_singleton]; omega) hs9) ?_
    rintro u' w10 ⟨O10, E10, -⟩
    have hE10 : ExtB (fun k => k = it) w5 w10 := (hE7.trans (ExtB.of_ext X)).write E10 (by intro k hk hlt; have := ownsRow_ge hO7 hk; omega)
    have hI10 := hI7.ext E10 (fun h => by have := ownsRow_ge hO7 h; omega) (fun h => by have := ownsRow_ge hO7 h; omega)
    repeat' (first | refine ZzA ?_ | refine RunL.ev Tryz.tOk rfl rfl rfl ?_ | refine ZzN ?_ | refine ZzI ?_)
    exact RunE.weaken (by repeat (first | exact Sub.nil _ | refine Sub.cons rfl ?_)) (next _ _ hE10 hI10 (by rw [htk, List.length_append, flat_append]; exact O10))
   ·have hkp : keptK out k = false := by unfold keptK; rw [hf]; exact decide_eq_false hq
    simp only [hkp, Bool.false_eq_true, if_false] at htk
    repeat' (first | with_reducible refine ZzP rfl ?_ | with_reducible refine ZzG rfl ?_ | (with_reducible refine RunLN.decF ?_ ?_; focus omega) | (with_reducible refine RunLN.chk ?_; refine RunLN.int (by (rfl)) ?_) | refine ZzA ?_ | refine RunL.ev Tryz.tOk rfl rfl rfl ?_ | refine RunL.evV rfl rfl rfl (OpV.load1 Tryz.tOk rfl rfl rfl (Blk.cell Z12 rfl)) ?_ | refine ZzF rfl rfl ?_ | refine ZzQ ?_ | refine ZzR ?_ | refine ZzN ?_ | refine ZzI ?_ | refine ZzK ?_)
    exact RunE.weaken (by repeat (first | exact Sub.nil _ | refine Sub.cons rfl ?_)) (next _ _ (hE7.trans (ExtB.of_ext X)) hI7 (by rw [htk]; exact hO7))
 clear again
 have hall := tk_all (grp_keys hG) hN hpm
 have hG6 : GrpL w7 b7 m out := hG.ext hE (fun k' cs _ hk e => hGb k' (lt_of_get hk) e cs hk)
 have htl := tk_len out ys
 rw [hpm.length_eq] at htl
 have hln : lenD (tkL out ys) ≤ 4096 := by
  rw [← allD_len, hall.length_eq]
  exact Nat.le_trans (List.length_filter_le _ _) hol
 have htp : ∀ x ∈ tkL out ys, LDr w7 x.v x.l := fun x hx => by
  obtain ⟨y, hy, rfl⟩ := List.mem_map.1 hx
  obtain ⟨h1, h2⟩ := ent_held hG6 hN (hpm.mem_iff.1 (List.mem_filter.1 hy).1)
  rw [h1]; exact h2
 have htm : ∀ x ∈ allD (tkL out ys), x ∈ allD ls := fun x hx => hos x (List.mem_filter.1 (hall.mem_iff.1 hx)).1
 have hts : LLl w7 u (tkL out ys) := isSl_own hO
 replace hD := obj_ext hD hE nD
 have X7 : Ext w w7 := X.write hE (by intro k hk hlt; omega)
 replace hfin := fun (s : List Dr) (h1 : s.Perm (allD (tkL out ys))) h2 => hfin s (h1.trans hall) h2
 generalize tkL out ys = tk at hln htp htm hts hfin htl
 clear hG6 hG hGb hO hI hE hall hform hos hend X Z8 hM4 hpm hN n8t nRt n88 n78 nD lR7 lit hs45 hsz5 l5
 have X := ExtB.refl (fun _ => False) w7
 repeat' (first | with_reducible refine ZzG rfl ?_ | refine ZzA ?_ | refine RunL.ev Tryz.tOk rfl rfl rfl ?_ | refine ZzF rfl rfl ?_ | refine ZzQ ?_ | refine ZzR ?_ | refine ZzN ?_ | refine RunE.exit rfl ?_)
 refine RunL.ex rfl rfl rfl (OpE.makeMap (Value.int .i64) (fun _ => True)) ?_
 rintro _ w8 ⟨R17, rfl, a, hM17⟩
 have gR17 := a.ge X
 replace X := X.trans a.ext
 clear a
 repeat' (first | refine ZzA ?_ | refine RunL.ev Tryz.tOk rfl rfl rfl ?_ | refine ZzQ ?_ | refine ZzR ?_ | refine ZzN ?_)
 refine RunL.ex rfl rfl rfl (OpE.makeMap (Value.int .i64) (fun _ => True)) ?_
 rintro _ w9 ⟨R18, rfl, a, hM18⟩
 have gR18 := a.ge X
 have n78 : R17 ≠ R18 := by have := hM17.lt; have := a.eq; omega
 replace hM17 := hM17.up a.ext
 replace X := X.trans a.ext
 clear a
 repeat' (first | refine ZzA ?_ | refine RunL.ev Tryz.tOk rfl rfl rfl ?_ | refine ZzQ ?_ | refine ZzR ?_ | refine ZzN ?_)
 refine RunL.ex rfl rfl rfl (OpE.makeMap digV (fun l => l.length = 32)) ?_
 rintro _ w10 ⟨R19, rfl, a, hM19⟩
 have gR19 := a.ge X
 have n79 : R17 ≠ R19 := by have := hM17.lt; have := a.eq; omega
 have n89 : R18 ≠ R19 := by have := hM18.lt; have := a.eq; omega
 replace hM17 := hM17.up a.ext
 replace hM18 := hM18.up a.ext
 replace X := X.trans a.ext
 clear a
 skip
 refine RunL.alloc Tryz.tOk rfl rfl rfl fun B19 wa_ aa_ => ?_
 have gB19 := aa_.ge X
 refine RunL.store Tryz.tOk rfl rfl rfl rfl rfl (cs := [.map none]) aa_.at_ rfl rfl fun w19_ tb_ => ?_
 have Xa_ : Ext _ w19_ := aa_.ext.write tb_.ext (by intro i_ hi_ hlt_; have := aa_.eq; omega)
 have Z19 : Blk w19_ B19 ([.map (some R19)]) 76 := tb_.at_
 replace hM17 := hM17.up Xa_
 replace hM18 := hM18.up Xa_
 replace hM19 := hM19.up Xa_
 replace X := X.trans Xa_
 clear Xa_ aa_ tb_
 repeat' (first | refine ZzA ?_ | refine RunL.ev Tryz.tOk rfl rfl rfl ?_ | refine ZzQ ?_ | refine ZzR ?_ | refine ZzN ?_)
 refine RunL.call rfl rfl rfl (msorted_ok tk u _ (hts.up X) (fun x hx => (htp x hx).up X) (by omega) (by omega)) ?_
 rintro r ws ⟨⟨s, hsp, hss, hsl⟩, Xa_⟩
 replace hM17 := hM17.up Xa_
 replace hM18 := hM18.up Xa_
 replace hM19 := hM19.up Xa_
 replace Z19 := Z19.up Xa_
 replace X := X.trans Xa_
 replace hD := obj_ext hD X id
 clear Xa_
 have hsf := hfin s hsp hss
 have hsrt : Srt ks (s.map Dr.d) := by rw [hsf]; exact sort_srt ks _
 have hsm : ∀ x ∈ s, x ∈ allD ls := fun x hx => htm x (hsp.mem_iff.1 hx)
 have hsn : s.length ≤ 4096 := by rw [hsp.length_eq, allD_len]; exact hln
 have g7 := X7.size
 replace gR17 : w.heap.size ≤ R17 := Nat.le_trans g7 gR17
 replace gR18 : w.heap.size ≤ R18 := Nat.le_trans g7 gR18
 replace gR19 : w.heap.size ≤ R19 := Nat.le_trans g7 gR19
 have XW : Ext w ws := X7.trans X
 have lD7 := lt_of_get hD
 have l17 := hM17.lt
 have l18 := hM18.lt
 have l19 := hM19.lt
 have lB19 := Z19.lt
 have nmap : ∀ (b : Nat) (o : Nat) (v : Value), ws.cell? ⟨b, o, none⟩ = some v → ¬ (b = R17 ∨ b = R18 ∨ b = R19) := fun b o v hc e => by
  have hm : ∃ es c, ws.heap[b]? = some (.map es c) := by
   rcases e with rfl | rfl | rfl
   ·obtain ⟨es, c, h', -⟩ := hM17; exact ⟨es, c, h'⟩
   ·obtain ⟨es, c, h', -⟩ := hM18; exact ⟨es, c, h'⟩
   ·obtain ⟨es, c, h', -⟩ := hM19; exact ⟨es, c, h'⟩
  obtain ⟨es, c, h'⟩ := hm
  unfold World.cell? at hc
  rw [h'] at hc; cases hc
 have nB19 := nmap B19 0 _ (Z19.row 0 _ rfl)
 have nDm : ¬ (D = R17 ∨ D = R18 ∨ D = R19) := fun e => by
  rcases e with rfl | rfl | rfl
  ·obtain ⟨es, c, h', -⟩ := hM17; rw [hD] at h'; cases h'
  ·obtain ⟨es, c, h', -⟩ := hM18; rw [hD] at h'; cases h'
  ·obtain ⟨es, c, h', -⟩ := hM19; rw [hD] at h'; cases h'
 have hP0 : PassSt ws ws R17 R18 R19 [] [] [] nilV [] := ⟨ExtB.refl _ _, hM17, hM18, hM19, LastOk.nil, NextOk.nil, ByOk.nil _ _, World.ownsRow_nil _ _ _ _⟩
 clear hM17 hM18 hM19 hts htp htm hfin hsp hss htl hln X X7 g7
 repeat' (first | (with_reducible refine RunLN.chk ?_; refine RunLN.int (by (rfl)) ?_) | refine RunL.ev Tryz.tOk rfl rfl rfl ?_ | refine RunL.evV rfl rfl rfl (OpV.lenSl Tryz.tOk rfl rfl hsl) ?_ | refine ZzN ?_ | refine ZzB ?_)
 refine RunE.loop (ι := Nat × Value × List (Int × Value) × List (Int × Value) × List (List UInt8 × Value)) (fun j => [(4, j.2.1), (17, .map (some R17)), (18, .map (some R18)), (19, .pointer (some ⟨B19, 0, none⟩)), (74, r), (75, .int .i64 (s.length : Int)), (76, .int .i64 (j.1 : Int))])
  (fun j w' => j.1 ≤ s.length ∧ PassSt ws w' R17 R18 R19 j.2.2.1 j.2.2.2.1 j.2.2.2.2 j.2.1 (passL Dr.d ks (s.take j.1))) (fun j => s.length - j.1) (0, nilV, [], [], []) (by repeat (first | exact Sub.nil _ | refine Sub.cons rfl ?_)) ⟨Nat.zero_le _, by rw [List.take_zero]; unfold passL; exact hP0⟩ ?_
 clear hP0
 rintro ⟨i, u, m17, m18, m19⟩ w11 ⟨hi, H⟩ again
 simp only at hi H again ⊢
 by_cases hlt : i < s.length
 rotate_left
 ·obtain rfl : i = s.length := by omega
  rw [List.take_length] at H
  clear again
  repeat' (first | (with_reducible refine RunLN.decF ?_ ?_; focus omega) | (with_reducible refine RunLN.chk ?_; refine RunLN.int (by (rfl)) ?_) | refine ZzA ?_ | refine RunL.ev Tryz.tOk rfl rfl rfl ?_ | refine ZzF rfl rfl ?_ | refine ZzQ ?_ | refine ZzR ?_ | refine ZzN ?_ | refine RunE.exit rfl ?_)
  refine RunE.retFn1 Tryz.func12 (obj_ext hD H.X nDm) fun w12 t12 => ⟨_, .tmp rfl (.tmp rfl .nil), ⟨u, passL Dr.d ks s, rfl, isSl_own (ownsRow_ext H.O t12.ext (fun k hk e => by have := ownsRow_ge H.O hk; omega)), ?_, fun x hx => hsm x ((passR_sub ks s).subset hx)⟩, ?_⟩
  ·rw [if_pos trivial, passL_map, hsf]; unfold mergeD; rfl
  ·exact (XW.write H.X (by intro k hk hlt; omega)).write t12.ext (by intro k hk hlt; omega)
 obtain ⟨b1, o1, cc, rfl, hr1, -⟩ := isL_held hsl hlt
 obtain ⟨x, hx⟩ : ∃ x, s[i]? = some x := ⟨_, List.getElem?_eq_getElem hlt⟩
 have hrx := flat_row encR hr1 hx
 have nb1 := nmap b1 _ _ (hrx 0 _ rfl)
 replace hrx : Row w11 b1 (o1 + i * 39) x.cells := fun j v hv => cell_ext (hrx j v hv) H.X nb1
 have hwx := hd x (hsm x (List.mem_of_getElem? hx))
 obtain ⟨hfx, hcond⟩ := pass_cond hsrt hx
 have hto : passL Dr.d ks (s.take (i + 1)) = if stepD ks ((passL Dr.d ks (s.take i)).map Dr.d) x.d then passL Dr.d ks (s.take i) ++ [x] else passL Dr.d ks (s.take i) := by
  rw [List.take_add_one, hx]; exact passR_snoc ks _ x
 have hpl : (passL Dr.d ks (s.take i)).length ≤ 4095 := by
  have := (passR_sub ks (s.take i)).length_le
  rw [List.length_take] at this; omega
 have hfm := (fineD_inv hfx).1
 obtain ⟨⟨p0, p1, o0, o1', -⟩, -, hfst⟩ := formedD_inv hfm
 have next := fun u' a b c w' (h : PassSt ws w' R17 R18 R19 a b c u' (passL Dr.d ks (s.take (i + 1)))) => again (i + 1, u', a, b, c) w' (by simp only; omega) ⟨by simp only; omega, h⟩
 rw [hto] at next
 clear again hto hr1 hsl hsf hsrt
 generalize passL Dr.d ks (s.take i) = out' at H hcond hpl next
 have hX11 := H.X.size
 have XA : Ext w w11 := XW.write H.X (by intro k hk hlt; omega)
 have cI : ∀ w', Ext w11 w' → Rets Tryz.prog 39 [.agg x.cells.toArray] w' fun r w'' => r = .tuple #[.agg (digC (idD x.d)).toArray, .int .i64 0] ∧ Ext w' w'' := fun w' X => by
  have X' := XA.trans X
  have h := dId_ok x.d x.u x.v w' (hwx.2.2.2.up X').seen (hwx.2.2.2.up X').data hwx.2.1 hwx.2.2.1 (hS.up X') (hkT.up X')
  have e1 : idG x.d = idD x.d := if_pos hfm
  have e2 : idE x.d = 0 := if_pos hfm
  rw [e1, e2] at h
  exact h
 have hany : (x.d.seen.any fun g => !metD (out'.map Dr.d) x.d.person g) = !(x.d.seen.all (metD (out'.map Dr.d) x.d.person)) := by
  induction x.d.seen with
  | nil => rfl
  | cons a l ih => rw [List.any_cons, List.all_cons, ih, Bool.not_and]
 have cC : ∀ (w' : World) (B21 B22 : Nat), PassSt ws w' R17 R18 R19 m17 m18 m19 u out' → Blk w' B21 x.cells 38 → Blk w' B22 [otherV B21] 78 → Ext w11 w' →
   Rets Tryz.prog 38 [x.u, unseenV B19 B22] w' fun r w'' => r = .bool (!(x.d.seen.all (metD (out'.map Dr.d) x.d.person))) ∧ Ext w' w'' := fun w' B21 B22 H Z21 Z22 X => by
  rw [← hany]
  refine dgcontainsFunc_ok x.d.seen x.u _ (fun g => !metD (out'.map Dr.d) x.d.person g) w' (hwx.2.2.2.up (XA.trans X)).seen hwx.2.1 fun w'' g X' _ => ?_
  exact RetsX.v (fi := []) (args := [.agg (digC g).toArray]) (ca := [.pointer (some ⟨B19, 0, none⟩), .pointer (some ⟨B22, 0, none⟩)]) (munseen_ok g (out'.map Dr.d) m19 R19 ws.heap.size B19 B22 B21 x.d x.u x.v w'' (by rw [List.length_map]; omega) (H.M19.up X') (H.B.up X') ((Z19.ext H.X nB19).up X') (Z22.up X') (Z21.up X'))
 clear hany
 have hL := H.L x.d.person
 have hN := H.N x.d.person
 have hlz : nextD (out'.map Dr.d) x.d.person = 0 → lastD (out'.map Dr.d) x.d.person = zeroG := last_zero
 have hn0 := nextD_nonneg (out'.map Dr.d) x.d.person
 have X := ExtB.refl (fun _ => False) w11
 repeat' (first | (with_reducible refine RunLN.decT ?_ ?_; focus omega) | refine ZzA ?_ | refine RunL.ev Tryz.tOk rfl rfl rfl ?_ | refine RunL.evV rfl rfl rfl (OpV.loadN Tryz.tOk rfl rfl rfl rfl (hrx.up X)) ?_ | refine RunL.evV rfl rfl rfl (OpV.indexS Tryz.tOk _ rfl rfl rfl rfl (by omega)) ?_ | refine ZzT rfl rfl ?_ | refine ZzQ ?_ | refine ZzR ?_ | refine ZzN ?_ | refine ZzB ?_ | refine ZzK ?_)
 refine RunL.alloc Tryz.tOk rfl rfl rfl fun B21 wa_ aa_ => ?_
 have gB21 := aa_.ge X
 refine RunL.storeW (vs := x.cells) Tryz.tOk rfl rfl rfl rfl rfl aa_.at_ rfl rfl fun w21_ tb_ => ?_
 have Xa_ : Ext _ w21_ := aa_.ext.write tb_.ext (by intro i_ hi_ hlt_; have := aa_.eq; omega)
 have Z21 : Blk w21_ B21 (x.cells) 38 := tb_.at_
 replace H := H.up Xa_
 replace X := X.trans Xa_
 clear Xa_ aa_ tb_
 repeat' (first | refine ZzA ?_ | refine RunL.ev Tryz.tOk rfl rfl rfl ?_ | refine ZzQ ?_ | refine ZzR ?_ | refine ZzN ?_)
 refine RunL.alloc Tryz.tOk rfl rfl rfl fun B22 wa_ aa_ => ?_
 have gB22 := aa_.ge X
 refine RunL.store Tryz.tOk rfl rfl rfl rfl rfl (cs := [.nilFunc]) aa_.at_ rfl rfl fun w22_ tb_ => ?_
 have Xa_ : Ext _ w22_ := aa_.ext.write tb_.ext (by intro i_ hi_ hlt_; have := aa_.eq; omega)
 have Z22 : Blk w22_ B22 ([otherV B21]) 78 := tb_.at_
 have n21_22 : B21 ≠ B22 := by have := Z21.lt; have := aa_.eq; omega
 have n22_21 : B22 ≠ B21 := Ne.symm n21_22
 replace H := H.up Xa_
 replace Z21 := Z21.up Xa_
 replace X := X.trans Xa_
 clear Xa_ aa_ tb_
 repeat' (first | refine ZzN ?_)
 refine ZzQ ?_
 repeat' (first | refine ZzA ?_ | refine RunL.ev Tryz.tOk rfl rfl rfl ?_ | refine ZzR ?_ | refine ZzN ?_)
 refine ZzQ ?_
 generalize hnx : nextD (out'.map Dr.d) x.d.person = nx at hcond hN hlz hn0
 generalize lastD (out'.map Dr.d) x.d.person = lp at hcond hL hlz
 generalize hsa : x.d.seen.all (metD (out'.map Dr.d) x.d.person) = sa at hcond cC
 cases hst : stepD ks (out'.map Dr.d) x.d with
 | false =>
  rw [hst] at hcond next
  simp only [Bool.false_eq_true, if_false] at next
  by_cases hno : x.d.no = nx
  rotate_left
  ·repeat' (first | (with_reducible refine RunLN.chk ?_; refine RunLN.int (by (rfl)) ?_) | refine ZzA ?_ | refine RunL.ev Tryz.tOk rfl rfl rfl ?_ | refine RunL.evV rfl rfl rfl (OpV.load1 Tryz.tOk rfl rfl rfl (Blk.cell Z21 rfl)) ?_ | refine ZzQ ?_ | refine ZzR ?_)
   refine RunL.evV rfl rfl rfl (OpV.lookup (kv := Value.int .i64) (good := fun _ => True) (k := x.d.person) (z := .int .i64 0) Tryz.underlying50 keyInt (by kernel_rfl) rfl rfl trivial H.M18) ?_
   rw [hN]
   repeat' (first | with_reducible refine ZzP rfl ?_ | (with_reducible refine RunLN.neT ?_ ?_; focus omega) | (with_reducible refine RunLN.chk ?_; refine RunLN.int (by (first | (refine wr_i64 ?_ ?_; omega; omega) | rfl)) ?_) | refine RunL.ev Tryz.tOk rfl rfl rfl ?_ | refine RunL.unwantedD rfl rfl ?_ | refine ZzT rfl rfl ?_ | refine ZzR ?_ | refine ZzN ?_ | refine RunE.exit rfl ?_)
   exact RunE.weaken (by repeat (first | exact Sub.nil _ | refine Sub.cons rfl ?_)) (next _ _ _ _ _ H)
  ·have hno' : (x.d.no == nx) = true := beq_iff_eq.2 hno
   rw [hno', Bool.true_and] at hcond
   by_cases h0 : 0 < x.d.no
   ·repeat' (first | (with_reducible refine RunLN.chk ?_; refine RunLN.int (by (rfl)) ?_) | refine ZzA ?_ | refine RunL.ev Tryz.tOk rfl rfl rfl ?_ | refine RunL.evV rfl rfl rfl (OpV.load1 Tryz.tOk rfl rfl rfl (Blk.cell Z21 rfl)) ?_ | refine ZzQ ?_ | refine ZzR ?_)
    refine RunL.evV rfl rfl rfl (OpV.lookup (kv := Value.int .i64) (good := fun _ => True) (k := x.d.person) (z := .int .i64 0) Tryz.underlying50 keyInt (by kernel_rfl) rfl rfl trivial H.M18) ?_
    rw [hN]
    repeat' (first | with_reducible refine ZzP rfl ?_ | with_reducible refine ZzG rfl ?_ | (with_reducible refine RunLN.decT ?_ ?_; focus omega) | (with_reducible refine RunLN.neF ?_ ?_; focus omega) | (with_reducible refine RunLN.chk ?_; refine RunLN.int (by (rfl)) ?_) | refine ZzA ?_ | refine RunL.ev Tryz.tOk rfl rfl rfl ?_ | refine RunL.evV rfl rfl rfl (OpV.load1 Tryz.tOk rfl rfl rfl (Blk.cell Z21 rfl)) ?_)
    refine RunL.evV rfl rfl rfl (OpV.lookup (kv := Value.int .i64) (good := fun _ => True) (k := x.d.person) (z := .agg (digC zeroG).toArray) Tryz.underlying75 keyInt (by kernel_rfl) rfl rfl trivial H.M17) ?_
    rw [hL]
    cases hq : (lp == x.d.prev) with
    | false =>
     have hq' : (!(lp == x.d.prev)) = true := by rw [hq]; rfl
     repeat' (first | with_reducible refine ZzP rfl ?_ | refine RunLN.boolT (by assumption) ?_ | (with_reducible refine RunLN.chk ?_; refine RunLN.int (by (first | (refine wr_i64 ?_ ?_; omega; omega) | rfl)) ?_) | refine ZzA ?_ | refine RunL.ev Tryz.tOk rfl rfl rfl ?_ | refine RunL.unwantedD rfl rfl ?_ | refine RunL.evV rfl rfl rfl (OpV.loadN Tryz.tOk rfl rfl rfl rfl (row_prev (Blk.row Z21))) ?_ | refine RunL.evV rfl rfl rfl ((OpV.neDg (a := lp) (b := x.d.prev) bytesArr rfl rfl)) ?_ | refine ZzT rfl rfl ?_ | refine ZzR ?_ | refine ZzN ?_ | refine RunE.exit rfl ?_)
     exact RunE.weaken (by repeat (first | exact Sub.nil _ | refine Sub.cons rfl ?_)) (next _ _ _ _ _ H)
    | true =>
     have hq' : (!(lp == x.d.prev)) = false := by rw [hq]; rfl
     have hq2 : (x.d.prev == lp) = true := by rw [beq_iff_eq] at hq ⊢; exact hq.symm
     rw [hq2, Bool.true_and] at hcond
     subst hcond
     repeat' (first | with_reducible refine ZzG rfl ?_ | refine RunLN.boolF (by assumption) ?_ | refine ZzA ?_ | refine RunL.ev Tryz.tOk rfl rfl rfl ?_ | refine RunL.evV rfl rfl rfl (OpV.load1 Tryz.tOk rfl rfl rfl (Blk.cell Z21 rfl)) ?_ | refine RunL.evV rfl rfl rfl (OpV.loadN Tryz.tOk rfl rfl rfl rfl (row_prev (Blk.row Z21))) ?_ | refine RunL.evV rfl rfl rfl ((OpV.neDg (a := lp) (b := x.d.prev) bytesArr rfl rfl)) ?_)
     refine RunL.call rfl rfl rfl (cC _ B21 B22 H Z21 Z22 X) ?_
     rintro _ w15 ⟨rfl, Xa_⟩
     replace H := H.up Xa_
     replace Z21 := Z21.up Xa_
     replace X := X.trans Xa_
     clear Xa_
     repeat' (first | with_reducible refine ZzP rfl ?_ | (with_reducible refine RunLN.chk ?_; refine RunLN.int (by (first | (refine wr_i64 ?_ ?_; omega; omega) | rfl)) ?_) | refine RunL.ev Tryz.tOk rfl rfl rfl ?_ | refine ZzT rfl rfl ?_ | refine ZzR ?_ | refine ZzN ?_ | refine RunE.exit rfl ?_)
     exact RunE.weaken (by repeat (first | exact Sub.nil _ | refine Sub.cons rfl ?_)) (next _ _ _ _ _ H)
   ·have hq2 : (x.d.prev == lp) = true := by
     rw [beq_iff_eq, hlz (by omega)]
     exact hfst.resolve_left h0
    rw [hq2, Bool.true_and] at hcond
    subst hcond
    repeat' (first | (with_reducible refine RunLN.chk ?_; refine RunLN.int (by (rfl)) ?_) | refine ZzA ?_ | refine RunL.ev Tryz.tOk rfl rfl rfl ?_ | refine RunL.evV rfl rfl rfl (OpV.load1 Tryz.tOk rfl rfl rfl (Blk.cell Z21 rfl)) ?_ | refine ZzQ ?_ | refine ZzR ?_)
    refine RunL.evV rfl rfl rfl (OpV.lookup (kv := Value.int .i64) (good := fun _ => True) (k := x.d.person) (z := .int .i64 0) Tryz.underlying50 keyInt (by kernel_rfl) rfl rfl trivial H.M18) ?_
    rw [hN]
    repeat' (first | with_reducible refine ZzG rfl ?_ | (with_reducible refine RunLN.decF ?_ ?_; focus omega) | (with_reducible refine RunLN.neF ?_ ?_; focus omega) | (with_reducible refine RunLN.chk ?_; refine RunLN.int (by (rfl)) ?_) | refine ZzA ?_ | refine RunL.ev Tryz.tOk rfl rfl rfl ?_ | refine RunL.unwantedD rfl rfl ?_ | refine RunL.evV rfl rfl rfl (OpV.load1 Tryz.tOk rfl rfl rfl (Blk.cell Z21 rfl)) ?_)
    refine RunL.call rfl rfl rfl (cC _ B21 B22 H Z21 Z22 X) ?_
    rintro _ w15 ⟨rfl, Xa_⟩
    replace H := H.up Xa_
    replace Z21 := Z21.up Xa_
    replace X := X.trans Xa_
    clear Xa_
    repeat' (first | with_reducible refine ZzP rfl ?_ | (with_reducible refine RunLN.chk ?_; refine RunLN.int (by (first | (refine wr_i64 ?_ ?_; omega; omega) | rfl)) ?_) | refine RunL.ev Tryz.tOk rfl rfl rfl ?_ | refine ZzT rfl rfl ?_ | refine ZzR ?_ | refine ZzN ?_ | refine RunE.exit rfl ?_)
    exact RunE.weaken (by repeat (first | exact Sub.nil _ | refine Sub.cons rfl ?_)) (next _ _ _ _ _ H)
 | true =>
 rw [hst] at hcond next
 rw [if_pos (rfl : true = true)] at next
 replace hcond := hcond.symm
 simp only [Bool.and_eq_true, beq_iff_eq] at hcond
 obtain ⟨⟨hno, hpv⟩, hsat⟩ := hcond
 subst hsat
 refine RunE.cut (ι := Unit) (fun _ => [(4, u), (17, .map (some R17)), (18, .map (some R18)), (19, .pointer (some ⟨B19, 0, none⟩)), (21, .pointer (some ⟨B21, 0, none⟩)), (74, .slice (some ⟨b1, o1, none⟩) s.length cc), (75, .int .i64 (s.length : Int)), (76, .int .i64 (i : Int))])
  (fun _ w' => PassSt ws w' R17 R18 R19 m17 m18 m19 u out' ∧ Blk w' B21 x.cells 38 ∧ Ext w11 w') ?_ ?_
 rotate_left
 ·intro join
  by_cases h0 : 0 < x.d.no
  ·repeat' (first | (with_reducible refine RunLN.chk ?_; refine RunLN.int (by (rfl)) ?_) | refine ZzA ?_ | refine RunL.ev Tryz.tOk rfl rfl rfl ?_ | refine RunL.evV rfl rfl rfl (OpV.load1 Tryz.tOk rfl rfl rfl (Blk.cell Z21 rfl)) ?_ | refine ZzQ ?_ | refine ZzR ?_)
   refine RunL.evV rfl rfl rfl (OpV.lookup (kv := Value.int .i64) (good := fun _ => True) (k := x.d.person) (z := .int .i64 0) Tryz.underlying50 keyInt (by kernel_rfl) rfl rfl trivial H.M18) ?_
   rw [hN]
   repeat' (first | with_reducible refine ZzP rfl ?_ | with_reducible refine ZzG rfl ?_ | (with_reducible refine RunLN.decT ?_ ?_; focus omega) | (with_reducible refine RunLN.neF ?_ ?_; focus omega) | (with_reducible refine RunLN.chk ?_; refine RunLN.int (by (rfl)) ?_) | refine ZzA ?_ | refine RunL.ev Tryz.tOk rfl rfl rfl ?_ | refine RunL.evV rfl rfl rfl (OpV.load1 Tryz.tOk rfl rfl rfl (Blk.cell Z21 rfl)) ?_)
   refine RunL.evV rfl rfl rfl (OpV.lookup (kv := Value.int .i64) (good := fun _ => True) (k := x.d.person) (z := .agg (digC zeroG).toArray) Tryz.underlying75 keyInt (by kernel_rfl) rfl rfl trivial H.M17) ?_
   rw [hL]
   have hq' : (!(lp == x.d.prev)) = false := by rw [← hpv]; simp
   repeat' (first | with_reducible refine ZzG rfl ?_ | refine RunLN.boolF (by assumption) ?_ | refine ZzA ?_ | refine RunL.ev Tryz.tOk rfl rfl rfl ?_ | refine RunL.evV rfl rfl rfl (OpV.load1 Tryz.tOk rfl rfl rfl (Blk.cell Z21 rfl)) ?_ | refine RunL.evV rfl rfl rfl (OpV.loadN Tryz.tOk rfl rfl rfl rfl (row_prev (Blk.row Z21))) ?_ | refine RunL.evV rfl rfl rfl ((OpV.neDg (a := lp) (b := x.d.prev) bytesArr rfl rfl)) ?_)
   refine RunL.call rfl rfl rfl (cC _ B21 B22 H Z21 Z22 X) ?_
   rintro _ w15 ⟨rfl, Xa_⟩
   replace H := H.up Xa_
   replace Z21 := Z21.up Xa_
   replace X := X.trans Xa_
   clear Xa_
   repeat' (first | with_reducible refine ZzG rfl ?_ | refine RunL.ev Tryz.tOk rfl rfl rfl ?_ | refine ZzN ?_)
   refine ZzF rfl rfl ?_
   (repeat (first | refine ZzK ?_))
   exact RunE.weaken (by repeat (first | exact Sub.nil _ | refine Sub.cons rfl ?_)) (join () _ ⟨H, Z21, X⟩)
  ·repeat' (first | (with_reducible refine RunLN.chk ?_; refine RunLN.int (by (rfl)) ?_) | refine ZzA ?_ | refine RunL.ev Tryz.tOk rfl rfl rfl ?_ | refine RunL.evV rfl rfl rfl (OpV.load1 Tryz.tOk rfl rfl rfl (Blk.cell Z21 rfl)) ?_ | refine ZzQ ?_ | refine ZzR ?_)
   refine RunL.evV rfl rfl rfl (OpV.lookup (kv := Value.int .i64) (good := fun _ => True) (k := x.d.person) (z := .int .i64 0) Tryz.underlying50 keyInt (by kernel_rfl) rfl rfl trivial H.M18) ?_
   rw [hN]
   repeat' (first | with_reducible refine ZzG rfl ?_ | (with_reducible refine RunLN.decF ?_ ?_; focus omega) | (with_reducible refine RunLN.neF ?_ ?_; focus omega) | (with_reducible refine RunLN.chk ?_; refine RunLN.int (by (rfl)) ?_) | refine ZzA ?_ | refine RunL.ev Tryz.tOk rfl rfl rfl ?_ | refine RunL.unwantedD rfl rfl ?_ | refine RunL.evV rfl rfl rfl (OpV.load1 Tryz.tOk rfl rfl rfl (Blk.cell Z21 rfl)) ?_)
   refine RunL.call rfl rfl rfl (cC _ B21 B22 H Z21 Z22 X) ?_
   rintro _ w15 ⟨rfl, Xa_⟩
   replace H := H.up Xa_
   replace Z21 := Z21.up Xa_
   replace X := X.trans Xa_
   clear Xa_
   repeat' (first | with_reducible refine ZzG rfl ?_ | refine RunL.ev Tryz.tOk rfl rfl rfl ?_ | refine ZzN ?_)
   refine ZzF rfl rfl ?_
   (repeat (first | refine ZzK ?_))
   exact RunE.weaken (by repeat (first | exact Sub.nil _ | refine Sub.cons rfl ?_)) (join () _ ⟨H, Z21, X⟩)
 clear H Z21 Z22 X cC hN hL hlz
 rintro _ w12 ⟨H, Z21, X12⟩
 have XB : ∀ u', Ext w12 u' → Ext w u' := fun u' e => (XA.trans X12).trans e
 have X := ExtB.refl (fun _ => False) w12
 repeat' (first | refine ZzA ?_ | refine RunL.evV rfl rfl rfl (OpV.loadN Tryz.tOk rfl rfl rfl rfl (Blk.row Z21)) ?_ | refine ZzQ ?_ | refine ZzR ?_)
 refine RunL.call rfl rfl rfl (cI _ (X12.trans X)) ?_
 rintro _ w13 ⟨rfl, Xa_⟩
 replace H := H.up Xa_
 replace Z21 := Z21.up Xa_
 replace X := X.trans Xa_
 clear Xa_ cI
 repeat' (first | (with_reducible refine RunLN.chk ?_; refine RunLN.int (by (rfl)) ?_) | refine ZzA ?_ | refine RunL.ev Tryz.tOk rfl rfl rfl ?_)
 refine RunL.alloc Tryz.tOk rfl rfl rfl fun B24 wa_ aa_ => ?_
 have gB24 := aa_.ge X
 refine RunL.storeW (vs := digC (idD x.d)) Tryz.tOk rfl rfl rfl rfl rfl aa_.at_ rfl rfl fun w24_ tb_ => ?_
 have Xa_ : Ext _ w24_ := aa_.ext.write tb_.ext (by intro i_ hi_ hlt_; have := aa_.eq; omega)
 have Z24 : Blk w24_ B24 (digC (idD x.d)) 32 := tb_.at_
 have n21_24 : B21 ≠ B24 := by have := Z21.lt; have := aa_.eq; omega
 have n24_21 : B24 ≠ B21 := Ne.symm n21_24
 replace H := H.up Xa_
 replace Z21 := Z21.up Xa_
 replace X := X.trans Xa_
 clear Xa_ aa_ tb_
 repeat' (first | with_reducible refine ZzG rfl ?_ | (with_reducible refine RunLN.chk ?_; refine RunLN.int (by (rfl)) ?_) | refine RunL.ev Tryz.tOk rfl rfl rfl ?_ | refine ZzF rfl rfl ?_ | refine ZzQ ?_ | refine ZzR ?_ | refine ZzN ?_ | refine ZzK ?_)
 have hXs := H.X.size
 refine RunE.draw (fun k => k = R17) mix ?_
 intro wd_ Xd_
 replace H := H.up Xd_
 replace Z21 := Z21.up Xd_
 replace Z24 := Z24.up Xd_
 have hX12 := X12.size
 have n21 : B21 ≠ R17 := by omega
 have n24 : B24 ≠ R17 := by omega
 repeat' (first | (with_reducible refine AsyN.chk ?_; refine AsyN.int (by (first | (refine wr_i64 ?_ ?_; omega; omega) | rfl)) ?_) | refine AsyN.any ?_ | refine Asy.ev Tryz.tOk rfl rfl rfl ?_ | refine Asy.evV rfl rfl rfl rfl (fun _ X_ => (OpV.load1 Tryz.tOk rfl rfl rfl (Blk.cell (Z21.ext X_ n21) rfl))) ?_ | refine Asy.evV rfl rfl rfl rfl (fun _ X_ => (OpV.loadN Tryz.tOk rfl rfl rfl rfl (Blk.row (Z24.ext X_ n24)))) ?_)
 refine Asy.wriN (fun w' => MapK (Value.int .i64) (fun _ => True) w' R17 (setM x.d.person (.agg (digC (idD x.d)).toArray) m17)) rfl rfl rfl (fun w' w'' _ e h => h.up e) (fun w' e => ?_) ?_
 ·refine OpE.mono (OpE.mapSet (kv := Value.int .i64) (good := fun _ => True) (k := x.d.person) (v := .agg (digC (idD x.d)).toArray) Tryz.underlying75 keyInt rfl rfl rfl trivial (H.M17.up e)) ?_ fun _ _ h => h
  rintro _ w'' ⟨h1, h2, -⟩; exact ⟨h2, h1⟩
 skip
 refine Asy.tailN (by kernel_rfl) fun we_ _ Xe_ hM17 => ?_
 simp only [satsAll]
 skip
 refine RunL.exN rfl rfl (OpE.mapSet (kv := Value.int .i64) (good := fun _ => True) (k := x.d.person) (v := .int .i64 (x.d.no + 1)) Tryz.underlying50 keyInt rfl rfl rfl trivial (H.M18.ext Xe_ (fun e => n78 e.symm))) ?_
 rintro _ w14 ⟨hM18, e14, s14⟩
 have EE : ExtB (fun k => k = R17 ∨ k = R18) wd_ w14 := (Xe_.mono fun k _ h => .inl h).trans (e14.mono fun k _ h => .inr h)
 have n21' : ¬ (B21 = R17 ∨ B21 = R18) := by omega
 have n24' : ¬ (B24 = R17 ∨ B24 = R18) := by omega
 have hL := H.L.snoc (d := x.d)
 have hN := H.N.snoc (d := x.d) (hno.trans hnx.symm)
 have XX : ExtB (fun k => k = R17 ∨ k = R18 ∨ k = R19) ws w14 := H.X.trans (EE.mono fun k _ h => h.imp_right .inl)
 have hM19 := H.M19.ext EE (by omega)
 have hB : ByOk w14 ws.heap.size m19 (out'.map Dr.d) := H.B.ext EE (fun k cs hb _ e => by omega)
 have hO : w14.ownsRow ws.heap.size 38 39 u out'.length (flat Dr.cells out') := ownsRow_ext H.O EE (fun k hk e => by have := ownsRow_ge H.O hk; omega)
 replace Z21 := Z21.ext EE n21'
 replace Z24 := Z24.ext EE n24'
 replace hM17 := hM17.ext e14 n78
 have Y19 := Z19.ext XX nB19
 have gX : ws.heap.size ≤ w14.heap.size := XX.size
 clear H EE Xe_ e14 s14 Xd_ n24' n21'
 replace X := ExtB.refl (fun _ => False) w14
 repeat' (first | (with_reducible refine RunLN.chk ?_; refine RunLN.int (by (rfl)) ?_) | refine ZzA ?_ | refine RunL.ev Tryz.tOk rfl rfl rfl ?_ | refine RunL.evV rfl rfl rfl (OpV.load1 Tryz.tOk rfl rfl rfl (Blk.cell Y19 rfl)) ?_ | refine RunL.evV rfl rfl rfl (OpV.loadN Tryz.tOk rfl rfl rfl rfl (Blk.row Z24)) ?_ | refine RunL.evV rfl rfl rfl (OpV.load1 Tryz.tOk rfl rfl rfl (Blk.cell Z21 rfl)) ?_ | refine ZzQ ?_ | refine ZzR ?_ | refine ZzN ?_)
 refine RunL.ex rfl rfl rfl (OpE.buildSl Tryz.tOk [.int .i64 x.d.person] rfl rfl rfl rfl rfl rfl (by simp [Value.cells])) ?_
 rintro _ w15 ⟨B15, rfl, a15⟩
 have hx1 : LIn w15 (.slice (some ⟨B15, 0, none⟩) 1 1) [x.d.person] := isSl_added (n := 1) (sz := 1) a15 rfl
 have l15 : ws.heap.size ≤ B15 := by have := a15.eq; omega
 replace hM17 := hM17.up a15.ext
 replace hM18 := hM18.up a15.ext
 replace hM19 := hM19.up a15.ext
 replace hB := hB.up a15.ext
 replace hO := World.ownsRow.up hO a15.ext
 replace XX := XX.trans (ExtB.of_ext a15.ext)
 replace Z21 := Z21.up a15.ext
 clear a15 X Y19 Z24 n24
 skip
 refine RunL.ex rfl rfl rfl (OpE.mapEntryDg (z := nilV) Tryz.underlying76 keyDg (by kernel_rfl) rfl rfl hM19) ?_
 rintro _ w16 ⟨st, rfl, hEn, e16, s16⟩
 have hIO := ownsRow_ext (hB.own (idD x.d)) e16 (fun k hk e => by have := ownsRow_ge (hB.own (idD x.d)) hk; omega)
 have hx2 : LIn w16 (.slice (some ⟨B15, 0, none⟩) 1 1) [x.d.person] := hx1.ext e16 (fun k hk e => by simp [Value.ownBlock] at hk; omega)
 have hB1 : ByOk w16 ws.heap.size m19 (out'.map Dr.d) := hB.ext e16 (fun k cs hb _ e => by omega)
 replace hO := ownsRow_ext hO e16 (fun k hk e => by have := ownsRow_ge hO hk; omega)
 replace hM17 := hM17.ext e16 n79
 replace hM18 := hM18.ext e16 n89
 replace XX := XX.trans (e16.mono fun k _ h => .inr (.inr h))
 replace Z21 := Z21.ext e16 (by omega)
 have gX16 : ws.heap.size ≤ w16.heap.size := XX.size
 have hwl : (whoD (out'.map Dr.d) (idD x.d)).length ≤ 4096 := by
  have h1 : (whoD (out'.map Dr.d) (idD x.d)).length ≤ (out'.map Dr.d).length := by unfold whoD; rw [List.length_map]; exact List.length_filter_le _ _
  rw [List.length_map] at h1; omega
 have hon : ∀ k, ((getM (idD x.d).1 m19).getD nilV).ownBlock = some k → ws.heap.size ≤ k ∧ ∃ cs, w16.heap[k]? = some (.cells cs 3 (0, 0)) := fun k hk => by
  refine ⟨ownsRow_ge hIO hk, ?_⟩
  rcases hIO.2 with ⟨h0, -⟩ | ⟨g, c, cur, h0, hb, hg, -⟩
  ·rw [h0] at hk; simp [Value.ownBlock] at hk
  ·rw [h0] at hk
   have : k = g := by simpa [Value.ownBlock] using hk.symm
   subst this
   exact ⟨cur, hg⟩
 have hob : ∀ k, u.ownBlock = some k → ∃ cs, w16.heap[k]? = some (.cells cs 38 (0, 0)) := fun k hk => by
  rcases hO.2 with ⟨h0, -⟩ | ⟨g, c, cur, h0, hb, hg, -⟩
  ·rw [h0] at hk; simp [Value.ownBlock] at hk
  ·rw [h0] at hk
   have : k = g := by simpa [Value.ownBlock] using hk.symm
   subst this
   exact ⟨cur, hg⟩
 clear hM19 hB hx1 e16 s16
 repeat' (first | refine ZzA ?_ | refine RunL.ev Tryz.tOk rfl rfl rfl ?_)
 refine RunL.ex rfl rfl rfl (OpE.append' Tryz.tOk rfl rfl rfl rfl rfl rfl hIO hx2 (flat_plain encIn [x.d.person]) (by show _ * 8 ≤ _; simp only [List.length_singleton]; omega) (by simp only [List.length_singleton]; omega) gX16) ?_
 rintro u' w17 ⟨O17, E17, hown⟩
 have hB2 := hB1.snoc (d := x.d) E17 (by rw [← flat_one (enc := intC')]; exact O17) hown
 have hEn2 := hEn.ext E17 (fun h => by have := (hon _ h).1; omega)
 replace hO := ownsRow_ext hO E17 (fun k hk h => by
  obtain ⟨cs, h1⟩ := hob k hk
  obtain ⟨-, cs', h2⟩ := hon k h
  rw [h1] at h2
  injection h2 with h2
  injection h2 with _ h3
  exact absurd h3 (by decide))
 replace hM17 := hM17.ext E17 (fun h => by have := (hon _ h).1; omega)
 replace hM18 := hM18.ext E17 (fun h => by have := (hon _ h).1; omega)
 replace XX := XX.write E17 (by intro k hk hlt; have := (hon _ hk).1; omega)
 replace Z21 := Z21.ext E17 (fun h => by
  obtain ⟨-, cs', h2⟩ := hon _ h
  rw [Z21] at h2
  injection h2 with h2
  injection h2 with _ h3
  exact absurd h3 (by decide))
 clear hIO hx2 hB1 hEn O17 hown hon hob
 repeat' (first | (with_reducible refine RunLN.chk ?_; refine RunLN.int (by (rfl)) ?_) | refine RunL.ev Tryz.tOk rfl rfl rfl ?_)
 refine RunL.exN rfl rfl (OpE.entryStore rfl rfl rfl hEn2) ?_
 rintro _ w18 ⟨hM19, e18, s18⟩
 replace hB2 : ByOk w18 ws.heap.size _ _ := hB2.ext e18 (fun k cs hb _ e => by omega)
 replace hO := ownsRow_ext hO e18 (fun k hk e => by have := ownsRow_ge hO hk; omega)
 replace hM17 := hM17.ext e18 n79
 replace hM18 := hM18.ext e18 n89
 replace XX := XX.trans (e18.mono fun k _ h => .inr (.inr h))
 replace Z21 := Z21.ext e18 (by omega)
 have gX18 : ws.heap.size ≤ w18.heap.size := XX.size
 generalize setM (idD x.d).1 u' m19 = m19' at hM19 hB2
 clear hEn2 E17 e18 s18 gX16 gX
 repeat' (first | refine ZzA ?_ | refine RunL.ev Tryz.tOk rfl rfl rfl ?_ | refine RunL.evV rfl rfl rfl (OpV.loadN Tryz.tOk rfl rfl rfl rfl (Blk.row Z21)) ?_ | refine ZzR ?_ | refine ZzN ?_)
 refine RunL.ex rfl rfl rfl (OpE.buildN encR Tryz.tOk [x] rfl rfl rfl rfl rfl rfl) ?_
 rintro _ w19 ⟨⟨B19', rfl, l19'⟩, hx3, Xa_⟩
 replace hM17 := hM17.up Xa_
 replace hM18 := hM18.up Xa_
 replace hM19 := hM19.up Xa_
 replace hB2 := hB2.up Xa_
 replace hO := World.ownsRow.up hO Xa_
 replace XX := XX.trans (ExtB.of_ext Xa_)
 have gX19 : ws.heap.size ≤ w19.heap.size := XX.size
 clear Xa_ Z21
 skip
 refine RunL.ex rfl rfl rfl (OpE.append' Tryz.tOk rfl rfl rfl rfl rfl rfl hO hx3 (flat_plain encR [x]) (by show _ * 120 ≤ _; simp only [List.length_singleton]; omega) (by simp only [List.length_singleton]; omega) gX19) ?_
 rintro u2 w20 ⟨O20, E20, -⟩
 have hge : ∀ k, u.ownBlock = some k → ws.heap.size ≤ k ∧ ∃ cs, w19.heap[k]? = some (.cells cs 38 (0, 0)) := fun k hk => by
  refine ⟨ownsRow_ge hO hk, ?_⟩
  rcases hO.2 with ⟨h0, -⟩ | ⟨g, c, cur, h0, hb, hg, -⟩
  ·rw [h0] at hk; simp [Value.ownBlock] at hk
  ·rw [h0] at hk
   have : k = g := by simpa [Value.ownBlock] using hk.symm
   subst this
   exact ⟨cur, hg⟩
 have H : PassSt ws w20 R17 R18 R19 (setM x.d.person (.agg (digC (idD x.d)).toArray) m17) (setM x.d.person (.int .i64 (x.d.no + 1)) m18) m19' u2 (out' ++ [x]) := by
  refine ⟨XX.write E20 (by intro k hk hlt; have := (hge _ hk).1; omega), hM17.ext E20 (fun h => by have := (hge _ h).1; omega), hM18.ext E20 (fun h => by have := (hge _ h).1; omega), hM19.ext E20 (fun h => by have := (hge _ h).1; omega), ?_, ?_, ?_, ?_⟩
  ·rw [List.map_append]; exact hL
  ·rw [List.map_append]; exact hN
  ·rw [List.map_append]
   exact hB2.ext E20 (fun k cs hb hk h => by
    obtain ⟨-, cs', h2⟩ := hge _ h
    rw [hk] at h2
    injection h2 with h2
    injection h2 with _ h3
    exact absurd h3 (by decide))
  ·rw [List.length_append, flat_append]; exact O20
 clear hM17 hM18 hM19 hB2 hO XX E20 O20 hge hx3 hL hN
 repeat' (first | (with_reducible refine RunLN.chk ?_; refine RunLN.int (by (first | (refine wr_i64 ?_ ?_; omega; omega) | rfl)) ?_) | refine ZzA ?_ | refine RunL.ev Tryz.tOk rfl rfl rfl ?_ | refine ZzR ?_ | refine ZzN ?_ | refine ZzI ?_)
 exact RunE.weaken (by repeat (first | exact Sub.nil _ | refine Sub.cons rfl ?_)) (next _ _ _ _ _ H)
end Go.Sg
end
section
/- Merge: Liars and Proves. -/
set_option maxRecDepth 4000
namespace Go.Mer
open Go.Rn Go.Rec Go.Dee Go.RowKit Go.Sg Go.NT
/-- Two deeds of one number. -/
structure Fr where
 a : Dr
 b : Dr
abbrev Fr.cells (x : Fr) : List Value := x.a.cells ++ x.b.cells
theorem encF : EncOk Fr.cells 78 := ⟨fun _ => rfl, fun _ => rfl, by decide⟩
abbrev LFr (w : World) (v : Value) (l : List Fr) : Prop := IsL w Fr.cells 78 v l
def frkL (out : List Dr) (x : Nat × Nat) : Fr := ⟨(grpD out ((x.1 : Int), (x.2 : Int))).getD 0 zeroR, (grpD out ((x.1 : Int), (x.2 : Int))).getD 1 zeroR⟩
theorem getD_of {α : Type} {l : List α} {i : Nat} (h : i < l.length) (d : α) : l[i]? = some (l.getD i d) := by
 rw [List.getD_eq_getElem?_getD, List.getElem?_eq_getElem h]; rfl
def pairD (x : Fr) : Deed × Deed := (x.a.d, x.b.d)
theorem fork_len {out : List Dr} {p : Int} {n : Nat} (h : forkL Dr.d out p = some n) : 2 ≤ (grpD out (p, (n : Int))).length := by
 rw [forkL_map] at h
 have := (forkD_some h).2.1
 rw [← atL_length] at this
 exact this
theorem forkTo_mem {out : List Dr} {j : Nat} {x : Nat × Nat} (h : (forkTo out 64)[j]? = some x) : x.1 < 64 ∧ forkL Dr.d out (x.1 : Int) = some x.2 := by
 have hm := List.mem_of_getElem? h
 unfold forkTo at hm
 obtain ⟨p, hp, he⟩ := List.mem_filterMap.1 hm
 cases hf : forkL Dr.d out (p : Int) with
 | none => rw [hf] at he; cases he
 | some q =>
  rw [hf] at he
  cases he
  exact ⟨List.mem_range.1 hp, hf⟩
theorem frk_pair (out : List Dr) : ((forkTo out 64).map (frkL out)).map pairD = liarsL id (out.map Dr.d) := by
 unfold forkTo liarsL
 rw [List.map_map, List.map_filterMap]
 congr 1
 funext p
 unfold liarAt
 rw [← forkL_map]
 cases hf : forkL Dr.d out (p : Int) with
 | none => rfl
 | some n =>
  have h2 := fork_len hf
  simp only [Option.map_some, Function.comp]
  rw [← atL_map]
  unfold frkL pairD
  simp only
  have e : grpD out ((p : Int), (n : Int)) = atL Dr.d out (p : Int) (n : Int) := rfl
  rw [e] at h2 ⊢
  rcases hl : atL Dr.d out (p : Int) (n : Int) with _ | ⟨a, _ | ⟨b, r⟩⟩
  ·rw [hl] at h2; simp at h2
  ·rw [hl] at h2; simp at h2
  ·rfl
end Go.Mer
namespace Go.Sg
open Go.Rn Go.Proofs Go.Dee Go.Mer Go.Rec Go.RowKit Go.Sha Go.Cod Go.NT
theorem blk_ne {w : World} {b b' : Nat} {cs cs' : List Value} {t t' : TypeId} (h : Blk w b cs t) (h' : Blk w b' cs' t') (ht : t ≠ t') : b ≠ b' := fun e => by
 subst e
 have h1 : w.heap[b]? = _ := h
 have h2 : w.heap[b]? = _ := h'
 rw [h1] at h2
 injection h2 with h2
 injection h2 with _ h3
 exact ht h3
theorem plFits (s : Int × Int) : fits [((3 : TypeId), FK.int .i64), (3, .int .i64)] (plC s) := ⟨rfl, fun i y h => by
  rcases i with _ | _ | n
  all_goals (simp only [List.getElem?_cons_zero, List.getElem?_cons_succ, List.getElem?_nil, Option.some.injEq, reduceCtorEq] at h)
  all_goals (subst h; exact ⟨_, rfl, _, rfl⟩)⟩
theorem pl_eq (a b : Int × Int) : eqAll (plC a) (plC b) = ((a.1 == b.1) && (a.2 == b.2)) := by
 simp [eqAll, veq, plC]
theorem build_fork {env : Env} {x0 x1 : Operand} (a b : Dr) (h0 : evO env x0 = some (.agg a.cells.toArray)) (h1 : evO env x1 = some (.agg b.cells.toArray)) :
  evalOp Tryz.T env (.build 40 #[(0, x0), (1, x1)]) = some (.agg (Fr.cells ⟨a, b⟩).toArray) := by
 have e1 : evParts env [(0, x0), (1, x1)] = some [(0, .agg a.cells.toArray), (1, .agg b.cells.toArray)] := by
  simp only [evParts, h0, h1]
 exact build_st rfl e1 (by kernel_rfl)
attribute [local irreducible] leftL passL keysD fineD stepD chkM mergeD liarsL Go.Rn.RetsX Go.Rn.RunLN Go.Rn.AsyN Go.Rn.RunL Go.Rn.RunE Go.Rn.Asy Go.Rn.OpV Go.Rn.OpE Go.Rn.ExecE
set_option maxRecDepth 8000 in
set_option maxHeartbeats 16000000 in
theorem mLiars_ok (ks : List Int) (kv : Value) (ls : List Ll) (lv : Value) (w : World) (hk : LIn w kv ks) (hkl : ks.length < 9223372036854775808) (hki : KsI ks) (hv : LLl w lv ls) (hl : ls.length < 9223372036854775808)
  (hp : ∀ x ∈ ls, LDr w x.v x.l) (hd : ∀ x ∈ allD ls, WfX w x) (hn : lenD ls < 9223372036854775808) (hS : Row w 0 0 (vals init8.l)) (hkT : Row w 1 0 (vals kTab)) :
  Rets Tryz.prog 16 [kv, lv] w fun r w' => (∃ u fs, r = .tuple #[u, .int .i64 (chkM ks ls)] ∧ LFr w' u fs ∧ fs.map pairD = (if chkM ks ls = 0 then liarsL id (leftD ks ((allD ls).map Dr.d)) else []) ∧ ∀ x ∈ fs, x.a ∈ allD ls ∧ x.b ∈ allD ls) ∧ Ext w w' := by
 refine RetsX.of (nt := 40) Tryz.func16 (by kernel_rfl) rfl rfl (by simp) (by simp only [argEnv]; rfl) ?_
 have X := ExtB.refl (fun _ => False) w
 repeat' (first | refine ZzQ ?_ | refine ZzR ?_)
 refine RunL.alloc Tryz.tOk rfl rfl rfl fun B4 w4_ a_ => ?_
 have Z4 : Blk w4_ B4 ([nilV]) 42 := a_.at_
 have gB4 := a_.ge X
 replace X := X.trans a_.ext
 clear a_
 repeat' (first | (with_reducible refine RunLN.chk ?_; refine RunLN.int (by (rfl)) ?_) | refine ZzA ?_ | refine RunL.ev Tryz.tOk rfl rfl rfl ?_ | refine ZzQ ?_ | refine ZzR ?_ | refine ZzN ?_)
 refine RunL.call rfl rfl rfl (mcheck_ok ks kv ls lv _ (hk.up X) hkl hki (hv.up X) hl hn (hS.up X) (hkT.up X)) ?_
 rintro _ wc ⟨rfl, Xa_⟩
 replace X := X.trans Xa_
 replace Z4 := Z4.up Xa_
 clear Xa_
 by_cases hc : chkM ks ls = 0
 rotate_left
 ·generalize chkM ks ls = ce at hc
  repeat' (first | (with_reducible refine RunLN.neT ?_ ?_; focus omega) | (with_reducible refine RunLN.chk ?_; refine RunLN.int (by (rfl)) ?_) | refine RunL.ev Tryz.tOk rfl rfl rfl ?_ | refine ZzT rfl rfl ?_ | refine ZzQ ?_ | refine ZzR ?_ | refine ZzN ?_)
  refine RunL.store Tryz.tOk rfl rfl rfl rfl rfl Z4 rfl rfl fun w_ t_ => ?_
  replace X := X.own t_.ext gB4
  replace Z4 : Blk w_ B4 ([nilV]) 42 := t_.at_
  clear t_
  repeat' (first | (with_reducible refine RunLN.chk ?_; refine RunLN.int (by (rfl)) ?_) | refine RunL.ev Tryz.tOk rfl rfl rfl ?_ | refine ZzN ?_)
  exact RunE.retFn Tryz.func16 (.cell rfl (Loads.scalar Tryz.tOk rfl rfl (Z4.cell rfl)) (.tmp rfl .nil)) ⟨⟨nilV, [], rfl, IsSl.nil, by rw [if_neg hc]; rfl, fun x hx => by cases hx⟩, X⟩
 obtain ⟨hkd, hl64, hn4⟩ := chkM_zero hc
 rw [hc]
 clear hc hn
 repeat' (first | with_reducible refine ZzG rfl ?_ | (with_reducible refine RunLN.chk ?_; refine RunLN.int (by (rfl)) ?_) | refine ZzA ?_ | refine RunL.ev Tryz.tOk rfl rfl rfl ?_ | refine ZzF rfl rfl ?_ | refine ZzQ ?_ | refine ZzR ?_ | refine ZzN ?_ | refine ZzK ?_)
 refine RunL.call rfl rfl rfl (mleft_ok ks kv ls lv _ (hk.up X) hkl hki hkd (hv.up X) hl (fun x hx => (hp x hx).up X) (fun x hx => (hd x hx).up X) hn4 (hS.up X) (hkT.up X)) ?_
 rintro _ w1 ⟨⟨R7, m, rfl, gR7, hM, hG, hN, hC⟩, Xa_⟩
 replace gR7 := Nat.le_trans X.size gR7
 have lZ4 := Z4.lt
 generalize wc.heap.size = b7 at hG
 replace X := X.trans Xa_
 replace Z4 := Z4.up Xa_
 clear Xa_
 have hol : (leftL Dr.d ks (allD ls)).length ≤ 4096 := by
  have := leftL_len Dr.d ks (allD ls)
  rw [allD_len] at this; omega
 have hos : ∀ y ∈ leftL Dr.d ks (allD ls), y ∈ allD ls := fun y hy => leftL_sub Dr.d hy
 have hfin := frk_pair (leftL Dr.d ks (allD ls))
 rw [leftL_map] at hfin
 generalize leftL Dr.d ks (allD ls) = out at hG hC hol hos hfin
 skip
 refine RunL.alloc Tryz.tOk rfl rfl rfl fun B7 wa_ aa_ => ?_
 have gB7 := aa_.ge X
 refine RunL.store Tryz.tOk rfl rfl rfl rfl rfl (cs := [.map none]) aa_.at_ rfl rfl fun w7_ tb_ => ?_
 have Xa_ : Ext _ w7_ := aa_.ext.write tb_.ext (by intro i_ hi_ hlt_; have := aa_.eq; omega)
 have Z7 : Blk w7_ B7 ([.map (some R7)]) 65 := tb_.at_
 have n4_7 : B4 ≠ B7 := by have := Z4.lt; have := aa_.eq; omega
 have n7_4 : B7 ≠ B4 := Ne.symm n4_7
 replace hM := hM.up Xa_
 replace hG := hG.up Xa_
 replace Z4 := Z4.up Xa_
 replace X := X.trans Xa_
 clear Xa_ aa_ tb_
 repeat' (first | refine ZzA ?_ | refine RunL.evV rfl rfl rfl (OpV.load1 Tryz.tOk rfl rfl rfl (Blk.cell Z7 rfl)) ?_ | refine ZzQ ?_ | refine ZzR ?_ | refine ZzN ?_)
 refine RunL.call rfl rfl rfl (mforked_ok R7 _) ?_
 rintro _ w3 ⟨⟨bf, rfl, Zf⟩, Xa_⟩
 replace hM := hM.up Xa_
 replace hG := hG.up Xa_
 replace Z4 := Z4.up Xa_
 replace Z7 := Z7.up Xa_
 replace X := X.trans Xa_
 clear Xa_
 have nf4 : bf ≠ B4 := blk_ne Zf Z4 (by decide)
 have n74 : B7 ≠ B4 := n7_4
 have nR4 : R7 ≠ B4 := fun e => by
  obtain ⟨es, c, h', -⟩ := hM
  rw [e, Z4] at h'; cases h'
 have hX3 := X.size
 have lB4 := Z4.lt
 repeat' (first | refine ZzN ?_ | refine ZzB ?_)
 refine RunE.rangeGives (w0 := w3) (F := fun k => k = bf ∨ k = R7) rfl ⟨_, Tryz.func16⟩ rfl (forked_gives out m R7 bf b7 w3 hM hG Zf) (fun k => k = B4) (fun k hk => by
   rcases hk with rfl | rfl
   ·exact ⟨nf4, Zf.lt⟩
   ·exact ⟨nR4, hM.lt⟩) (ExtB.refl _ _) (fun xs hxs => ?_) rfl
  (fun j w' => ExtB (fun k => k = B4) w3 w' ∧ ∃ u, Blk w' B4 [u] 42 ∧ w'.ownsRow (w3.heap.size + 2) 40 78 u (((forkTo out 64).take j).map (frkL out)).length (flat Fr.cells (((forkTo out 64).take j).map (frkL out)))) ?_ ?_ ?_ ?_ ?_
 ·obtain ⟨a, -, rfl⟩ := List.mem_map.1 hxs; rfl
 ·intro w4 e _; exact ⟨ExtB.of_ext e, nilV, Z4.up e, World.ownsRow_nil _ _ _ _⟩
 ·rintro j u ⟨h, -⟩; exact h
 ·rintro j u u' ⟨h, v, h', hO⟩ e
  exact ⟨h.write e (by intro k hk hlt; omega), v, h'.ext e (by omega), ownsRow_ext hO e (fun k hk h => by have := ownsRow_ge hO hk; omega)⟩
 ·rintro j xs u lp hxs ⟨hE, v, Y4, hO⟩ hL hs'
  obtain ⟨⟨p, q⟩, hpq, rfl⟩ : ∃ pq, (forkTo out 64)[j]? = some pq ∧ xs = [.int .i64 (pq.1 : Int), .int .i64 (pq.2 : Int)] := by
   simp only [forkX, List.getElem?_map, Option.map_eq_some_iff] at hxs
   obtain ⟨a, h, rfl⟩ := hxs; exact ⟨a, h, rfl⟩
  have hsn : ((forkTo out 64).take (j + 1)).map (frkL out) = ((forkTo out 64).take j).map (frkL out) ++ [frkL out (p, q)] := by
   rw [List.take_add_one, hpq, List.map_append]; rfl
  obtain ⟨-, hfk⟩ := forkTo_mem hpq
  simp only at hfk
  have h2 := fork_len hfk
  have hjl : (((forkTo out 64).take j).map (frkL out)).length ≤ 64 := by
   rw [List.length_map, List.length_take]
   have : (forkTo out 64).length ≤ 64 := by unfold forkTo; exact Nat.le_trans (List.length_filterMap_le _ _) (by simp)
   omega
  simp only [parEnv]
  repeat' (first | (with_reducible refine RunLN.chk ?_; refine RunLN.int (by (rfl)) ?_) | refine RunL.ev Tryz.tOk rfl rfl rfl ?_ | refine ZzQ ?_ | refine ZzR ?_ | refine ZzN ?_)
  refine RunE.beginR hL hs' (by omega) fun u3 t3 hL3 => ?_
  have hE3 : ExtB (fun k => k = B4) w3 u3 := hE.write t3 (by intro k hk hlt; omega)
  replace Y4 := Y4.ext t3 (by omega)
  replace hO := ownsRow_ext hO t3 (fun k hk h => by have := ownsRow_ge hO hk; omega)
  have Y7 := Z7.ext hE3 n74
  have hM3 := hM.ext hE3 nR4
  have hG3 : GrpL u3 b7 m out := hG.ext hE3 (fun k cs _ hk e => by
   subst e
   have h1 : w3.heap[k]? = _ := Z4
   rw [hk] at h1
   injection h1 with h1
   injection h1 with _ h
   exact absurd h (by decide))
  have hL2 := isSl_own (hG3.own ((p : Int), (q : Int)))
  have hu3 : w3.heap.size + 2 ≤ u3.heap.size := by
   have h1 := lt_of_get hL3.l
   omega
  repeat' (first | (with_reducible refine RunLN.chk ?_; refine RunLN.int (by (rfl)) ?_) | refine ZzA ?_ | refine RunL.ev Tryz.tOk rfl rfl rfl ?_ | refine RunL.evV rfl rfl rfl (OpV.load1 Tryz.tOk rfl rfl rfl (Blk.cell Y7 rfl)) ?_ | refine ZzQ ?_ | refine ZzR ?_ | refine ZzB ?_)
  refine RunL.evV rfl rfl rfl (OpV.lookup (kv := plV) (good := fun _ => True) (k := ((p : Int), (q : Int))) (z := nilV) Tryz.underlying65 plKey (by kernel_rfl) rfl rfl trivial hM3) ?_
  obtain ⟨bb, oo, cc, eb, hr, -, -⟩ := hL2.held (by omega)
  rw [eb]
  have ha : (grpD out ((p : Int), (q : Int)))[0]? = some (frkL out (p, q)).a := getD_of (by omega) zeroR
  have hb : (grpD out ((p : Int), (q : Int)))[1]? = some (frkL out (p, q)).b := getD_of (by omega) zeroR
  have hra := flat_row encR hr ha
  have hrb := flat_row encR hr hb
  generalize frkL out (p, q) = fr at hsn ha hb hra hrb
  obtain ⟨fa, fb⟩ := fr
  simp only at ha hb hra hrb
  generalize grpD out ((p : Int), (q : Int)) = g2 at *
  have X := ExtB.refl (fun _ => False) u3
  repeat' (first | refine ZzA ?_ | refine RunL.ev Tryz.tOk rfl rfl rfl ?_ | refine ZzN ?_)
  refine RunE.draw (fun _ => False) mix ?_
  intro wd_ Xd_
  replace X := Xd_
  repeat' (first | refine AsyN.any ?_ | refine Asy.ev Tryz.tOk rfl rfl ((build_fork fa fb rfl rfl)) ?_ | refine Asy.ev Tryz.tOk rfl rfl rfl ?_ | refine Asy.evV rfl rfl rfl rfl (fun _ X_ => OpV.indexS Tryz.tOk 0 rfl rfl rfl (by first | rfl | omega) (by omega)) ?_ | refine Asy.evV rfl rfl rfl rfl (fun _ X_ => OpV.indexS Tryz.tOk 1 rfl rfl rfl (by first | rfl | omega) (by omega)) ?_ | refine Asy.evV rfl rfl rfl rfl (fun _ X_ => (OpV.load1 Tryz.tOk rfl rfl rfl (Blk.cell (Y4.up (Xd_.trans X_)) rfl))) ?_ | refine Asy.evV rfl rfl rfl rfl (fun _ X_ => (OpV.loadN Tryz.tOk rfl rfl rfl rfl (hra.up (Xd_.trans X_)))) ?_ | refine Asy.evV rfl rfl rfl rfl (fun _ X_ => (OpV.loadN Tryz.tOk rfl rfl rfl rfl (hrb.up (Xd_.trans X_)))) ?_)
  refine Asy.sat0 (fun u w' => LFr w' u [⟨fa, fb⟩]) rfl rfl rfl rfl (fun u w' w'' _ e h => h.extE e) (fun w' _ => ?_) ?_
  ·refine OpE.mono (OpE.buildN encF Tryz.tOk [⟨fa, fb⟩] rfl rfl rfl rfl rfl rfl) ?_ fun _ _ h => h
   rintro _ w'' ⟨-, h, e⟩; exact ⟨e, h⟩
  refine Asy.tail (by kernel_rfl) ?_
  intro we_ Xe_
  simp only [satsAll]
  intro x hx
  replace X := X.trans Xe_
  replace hO := World.ownsRow.up hO X
  replace Y4 := Y4.up X
  have hs5 : w3.heap.size + 2 ≤ we_.heap.size := Nat.le_trans hu3 X.size
  skip
  refine RunL.ex rfl rfl rfl (OpE.append' Tryz.tOk rfl rfl rfl rfl rfl rfl hO hx (flat_plain encF [⟨fa, fb⟩]) (by show _ * 240 ≤ _; simp only [List.length_singleton]; omega) (by simp only [List.length_singleton]; omega) hs5) ?_
  rintro y' u5 ⟨O5, E5, -⟩
  have hL5 := (hL3.up X).ext E5 (fun h => by have := ownsRow_ge hO h; omega) (fun h => by have := ownsRow_ge hO h; omega)
  have XX : ExtB (fun k => k = B4) w3 u5 := (hE3.trans (ExtB.of_ext X)).write E5 (by intro k hk hlt; have := ownsRow_ge hO hk; omega)
  replace Y4 := Y4.ext E5 (fun h => by have := ownsRow_ge hO h; omega)
  obtain ⟨b5, o5, c5, rfl, -, -, -⟩ := (isSl_own O5).held (by simp only [List.length_singleton]; omega)
  skip
  refine RunL.store Tryz.tOk rfl rfl rfl rfl rfl Y4 rfl rfl fun u6 t6 => ?_
  repeat' (first | refine ZzN ?_ | refine ZzI ?_)
  exact RunE.endR ⟨XX.trans t6.ext, _, t6.at_, by rw [hsn, List.length_append, flat_append]; exact ownsRow_ext O5 t6.ext (fun k hk h => by have := ownsRow_ge O5 hk; omega)⟩ (hL5.ext t6.ext (by omega) (by omega))
 rintro w4 ⟨hE, v, Y4, hO⟩ hD
 have hlenX : (forkX out).length = (forkTo out 64).length := by simp [forkX]
 rw [hlenX, List.take_length] at hO
 have hm : ∀ x ∈ (forkTo out 64).map (frkL out), x.a ∈ allD ls ∧ x.b ∈ allD ls := fun x hx => by
  obtain ⟨y, hy, rfl⟩ := List.mem_map.1 hx
  obtain ⟨j, hj⟩ := List.mem_iff_getElem?.1 hy
  have h2 := fork_len (forkTo_mem hj).2
  have hg : ∀ i, i < 2 → (grpD out ((y.1 : Int), (y.2 : Int))).getD i zeroR ∈ allD ls := fun i hi => by
   rw [List.getD_eq_getElem?_getD, List.getElem?_eq_getElem (by omega)]
   exact hos _ (grp_sub (List.getElem_mem (by omega)))
  exact ⟨hg 0 (by omega), hg 1 (by omega)⟩
 obtain ⟨dv, cv, rfl⟩ := isSl_slice (isSl_own hO)
 have X4 : Ext w w4 := X.write hE (by intro k hk hlt; omega)
 generalize (forkTo out 64).map (frkL out) = fs at hO hm hfin Y4
 clear hM hG Z7 Zf hE
 repeat' (first | refine ZzA ?_ | refine RunL.evV rfl rfl rfl (OpV.load1 Tryz.tOk rfl rfl rfl (Blk.cell Y4 rfl)) ?_ | refine ZzQ ?_ | refine ZzR ?_ | refine ZzI ?_)
 refine RunL.store Tryz.tOk rfl rfl rfl rfl rfl Y4 rfl rfl fun u6 t6 => ?_
 have Y6 := t6.at_
 replace hD := obj_ext hD t6.ext (by omega)
 repeat' (first | (with_reducible refine RunLN.chk ?_; refine RunLN.int (by (rfl)) ?_) | refine RunL.ev Tryz.tOk rfl rfl rfl ?_ | refine ZzN ?_)
 refine RunE.retFn1 Tryz.func16 hD fun w9 t9 => ⟨_, .cell rfl (Loads.scalar Tryz.tOk rfl rfl ((Blk.ext Y6 t9.ext (by omega)).cell rfl)) (.tmp rfl .nil), ⟨_, fs, rfl, isSl_own (ownsRow_ext (ownsRow_ext hO t6.ext (fun k hk h => by have := ownsRow_ge hO hk; omega)) t9.ext (fun k hk h => by have := ownsRow_ge hO hk; omega)), by rw [if_pos rfl, hfin], hm⟩, ?_⟩
 exact (X4.write t6.ext (by intro k hk hlt; omega)).write t9.ext (by intro k hk hlt; omega)
theorem row_fb {w : World} {b o : Nat} {x : Fr} (h : Row w b o x.cells) : Row w b (o + 39) x.b.cells := h.window fun i c hc => by
 show (x.a.cells ++ x.b.cells)[39 + i]? = some c
 rw [List.getElem?_append_right (by show 39 ≤ 39 + i; omega)]
 rw [show 39 + i - x.a.cells.length = i from Nat.add_sub_cancel_left 39 i]
 exact hc
theorem row_fa {w : World} {b o : Nat} {x : Fr} (h : Row w b o x.cells) : Row w b (o + 0) x.a.cells := h.window fun i c hc => by
 show (x.a.cells ++ x.b.cells)[0 + i]? = some c
 rw [Nat.zero_add, List.getElem?_append_left]
 ·exact hc
 ·rcases Nat.lt_or_ge i x.a.cells.length with h' | h'
  ·exact h'
  ·rw [List.getElem?_eq_none h'] at hc; cases hc
def provesB (ks : List Int) (a b : Deed) : Bool := keysD ks && (fineD ks a && fineD ks b && ((a.person == b.person) && (a.no == b.no)) && !sameF a b)
def provesE (ks : List Int) : Int := if keysD ks then 0 else 1
set_option maxRecDepth 8000 in
set_option maxHeartbeats 16000000 in
theorem mProves_ok (ks : List Int) (kv : Value) (x : Fr) (w : World) (hk : LIn w kv ks) (hkl : ks.length < 9223372036854775808) (hki : KsI ks) (ha : WfX w x.a) (hb : WfX w x.b) (hS : Row w 0 0 (vals init8.l)) (hkT : Row w 1 0 (vals kTab)) :
  Rets Tryz.prog 18 [kv, .agg x.cells.toArray] w fun r w' => r = .tuple #[.bool (provesB ks x.a.d x.b.d), .int .i64 (provesE ks)] ∧ Ext w w' := by
 have cR : ∀ (d : Dr) (w' : World), WfX w d → Ext w w' → Rets Tryz.prog 24 [kv, .agg d.cells.toArray] w' fun r w'' => r = .tuple #[.bool (rightB ks d.d), .int .i64 (rightE ks)] ∧ Ext w' w'' := fun d w' hw X =>
  dRight_ok ks kv d.d d.u d.v w' (hk.up X) hkl hki hw.1 (hw.2.2.2.seen.up X) (hw.2.2.2.up X).data hw.2.1 hw.2.2.1 (hS.up X) (hkT.up X)
 have cS : ∀ (w' : World), Ext w w' → Rets Tryz.prog 47 [.agg x.a.cells.toArray, .agg x.b.cells.toArray] w' fun r w'' => r = .bool (sameF x.a.d x.b.d) ∧ Ext w' w'' := fun w' X =>
  msame_ok x.a.d x.b.d x.a.u x.a.v x.b.u x.b.v w' (ha.2.2.2.up X).seen (ha.2.2.2.up X).data (hb.2.2.2.up X).seen (hb.2.2.2.up X).data ha.2.1 hb.2.1
 unfold provesB provesE
 unfold rightB rightE at cR
 refine RetsX.of (nt := 55) Tryz.func18 (by kernel_rfl) rfl rfl (by simp) (by simp only [argEnv]; rfl) ?_
 have X := ExtB.refl (fun _ => False) w
 repeat' (first | refine ZzQ ?_ | refine ZzR ?_)
 refine RunL.box rfl rfl rfl fun B3 w3_ a_ => ?_
 have Z3 : Blk w3_ B3 (x.cells) 40 := a_.at_
 have gB3 := a_.ge X
 replace X := X.trans a_.ext
 clear a_
 have he : eqAll (plC (x.a.d.person, x.a.d.no)) (plC (x.b.d.person, x.b.d.no)) = ((x.a.d.person == x.b.d.person) && (x.a.d.no == x.b.d.no)) := pl_eq _ _
 cases hkd : keysD ks with
 | false =>
  rw [hkd] at cR
  simp only [Bool.false_and, Bool.false_eq_true, if_false] at cR
  repeat' (first | with_reducible refine ZzG rfl ?_ | (with_reducible refine RunLN.chk ?_; refine RunLN.int (by (rfl)) ?_) | refine ZzA ?_ | refine RunL.ev Tryz.tOk rfl rfl rfl ?_ | refine RunL.evV rfl rfl rfl (OpV.loadN Tryz.tOk rfl rfl rfl rfl (row_fa Z3.row)) ?_ | refine ZzQ ?_ | refine ZzR ?_ | refine ZzN ?_)
  refine RunL.call rfl rfl rfl (cR x.a _ ha X) ?_
  rintro _ _ ⟨rfl, Xa_⟩
  replace X := X.trans Xa_
  clear Xa_
  repeat' (first | with_reducible refine ZzP rfl ?_ | with_reducible refine ZzG rfl ?_ | (with_reducible refine RunLN.chk ?_; refine RunLN.int (by (rfl)) ?_) | refine ZzA ?_ | refine RunL.ev Tryz.tOk rfl rfl rfl ?_ | refine ZzT rfl rfl ?_ | refine ZzQ ?_ | refine ZzR ?_ | refine ZzN ?_)
  exact RunE.retFn Tryz.func18 (.tmp rfl (.tmp rfl .nil)) ⟨rfl, X⟩
 | true =>
 rw [hkd] at cR
 simp only [Bool.true_and, if_true] at cR ⊢
 repeat' (first | with_reducible refine ZzG rfl ?_ | (with_reducible refine RunLN.chk ?_; refine RunLN.int (by (rfl)) ?_) | refine ZzA ?_ | refine RunL.ev Tryz.tOk rfl rfl rfl ?_ | refine RunL.evV rfl rfl rfl (OpV.loadN Tryz.tOk rfl rfl rfl rfl (row_fa Z3.row)) ?_ | refine ZzQ ?_ | refine ZzR ?_ | refine ZzN ?_)
 refine RunL.call rfl rfl rfl (cR x.a _ ha X) ?_
 rintro _ _ ⟨rfl, Xa_⟩
 replace Z3 := Z3.up Xa_
 replace X := X.trans Xa_
 clear Xa_
 repeat' (first | with_reducible refine ZzG rfl ?_ | (with_reducible refine RunLN.chk ?_; refine RunLN.int (by (rfl)) ?_) | refine ZzA ?_ | refine RunL.ev Tryz.tOk rfl rfl rfl ?_ | refine RunL.evV rfl rfl rfl (OpV.loadN Tryz.tOk rfl rfl rfl rfl (row_fb Z3.row)) ?_ | refine ZzF rfl rfl ?_ | refine ZzQ ?_ | refine ZzR ?_ | refine ZzN ?_ | refine ZzK ?_)
 refine RunL.call rfl rfl rfl (cR x.b _ hb X) ?_
 rintro _ _ ⟨rfl, Xa_⟩
 replace Z3 := Z3.up Xa_
 replace X := X.trans Xa_
 clear Xa_
 cases hfa : fineD ks x.a.d with
 | false =>
  repeat' (first | with_reducible refine ZzG rfl ?_ | (with_reducible refine RunLN.chk ?_; refine RunLN.int (by (rfl)) ?_) | refine ZzA ?_ | refine RunL.ev Tryz.tOk rfl rfl rfl ?_ | refine RunL.unwantedD rfl rfl ?_ | refine ZzF rfl rfl ?_ | refine ZzQ ?_ | refine ZzR ?_ | refine ZzN ?_ | refine ZzK ?_)
  exact RunE.retFn Tryz.func18 (.tmp rfl (.tmp rfl .nil)) ⟨rfl, X⟩
 | true =>
 cases hfb : fineD ks x.b.d with
 | false =>
  repeat' (first | with_reducible refine ZzP rfl ?_ | with_reducible refine ZzG rfl ?_ | (with_reducible refine RunLN.chk ?_; refine RunLN.int (by (rfl)) ?_) | refine ZzA ?_ | refine RunL.ev Tryz.tOk rfl rfl rfl ?_ | refine RunL.unwantedD rfl rfl ?_ | refine ZzF rfl rfl ?_ | refine ZzQ ?_ | refine ZzR ?_ | refine ZzN ?_ | refine ZzK ?_)
  exact RunE.retFn Tryz.func18 (.tmp rfl (.tmp rfl .nil)) ⟨rfl, X⟩
 | true =>
 cases hpl : ((x.a.d.person == x.b.d.person) && (x.a.d.no == x.b.d.no)) with
 | false =>
  rw [hpl] at he
  repeat' (first | with_reducible refine ZzP rfl ?_ | with_reducible refine ZzG rfl ?_ | refine RunLN.boolF (by assumption) ?_ | (with_reducible refine RunLN.chk ?_; refine RunLN.int (by (rfl)) ?_) | refine ZzA ?_ | refine RunL.ev Tryz.tOk rfl rfl rfl ?_ | refine RunL.unwantedD rfl rfl ?_ | refine RunL.evV rfl rfl rfl (OpV.load1 Tryz.tOk rfl rfl rfl (Blk.cell Z3 rfl)) ?_ | refine RunL.evV rfl rfl rfl ((OpV.eqFlat plFlat (xs := plC (x.a.d.person, x.a.d.no)) (ys := plC (x.b.d.person, x.b.d.no)) rfl rfl (plFits _) (plFits _))) ?_ | refine ZzF rfl rfl ?_ | refine ZzQ ?_ | refine ZzR ?_ | refine ZzN ?_ | refine ZzK ?_)
  exact RunE.retFn Tryz.func18 (.tmp rfl (.tmp rfl .nil)) ⟨rfl, X⟩
 | true =>
 rw [hpl] at he
 repeat' (first | with_reducible refine ZzP rfl ?_ | with_reducible refine ZzG rfl ?_ | refine RunLN.boolT (by assumption) ?_ | (with_reducible refine RunLN.chk ?_; refine RunLN.int (by (rfl)) ?_) | refine ZzA ?_ | refine RunL.ev Tryz.tOk rfl rfl rfl ?_ | refine RunL.evV rfl rfl rfl (OpV.load1 Tryz.tOk rfl rfl rfl (Blk.cell Z3 rfl)) ?_ | refine RunL.evV rfl rfl rfl (OpV.loadN Tryz.tOk rfl rfl rfl rfl (row_fa Z3.row)) ?_ | refine RunL.evV rfl rfl rfl (OpV.loadN Tryz.tOk rfl rfl rfl rfl (row_fb Z3.row)) ?_ | refine RunL.evV rfl rfl rfl ((OpV.eqFlat plFlat (xs := plC (x.a.d.person, x.a.d.no)) (ys := plC (x.b.d.person, x.b.d.no)) rfl rfl (plFits _) (plFits _))) ?_ | refine ZzF rfl rfl ?_ | refine ZzQ ?_ | refine ZzR ?_ | refine ZzN ?_ | refine ZzK ?_)
 refine RunL.call rfl rfl rfl (cS _ X) ?_
 rintro _ _ ⟨rfl, Xa_⟩
 replace X := X.trans Xa_
 clear Xa_
 cases hsm : sameF x.a.d x.b.d
 all_goals
  repeat' (first | with_reducible refine ZzP rfl ?_ | with_reducible refine ZzG rfl ?_ | (with_reducible refine RunLN.chk ?_; refine RunLN.int (by (rfl)) ?_) | refine RunL.ev Tryz.tOk rfl rfl rfl ?_ | refine ZzN ?_)
  exact RunE.retFn Tryz.func18 (.tmp rfl (.tmp rfl .nil)) ⟨rfl, X⟩
end Go.Sg
end
section
/- The walks of package signatoryref11: Mod, Times, Power, Quotient. -/
set_option maxRecDepth 4000
namespace Go.Sg
open Go.Rn Go.NT Go.Sha Go.Cod Go.Proofs
attribute [local irreducible] Go.Rn.RunL Go.Rn.RunE Go.Rn.Asy Go.Rn.OpV Go.Rn.OpE Go.Rn.ExecE

def quo (a b : Int) : Int := a % 1073741789 * (b ^ 1073741787 % 1073741789) % 1073741789
end Go.Sg
end
section
/- The walks of package signatoryref11: Sign, Verify. -/
set_option maxRecDepth 4000
namespace Go.Sg
open Go.Rn Go.NT Go.Sha Go.Cod Go.Proofs
attribute [local irreducible] Go.Rn.RunL Go.Rn.RunE Go.Rn.Asy Go.Rn.OpV Go.Rn.OpE Go.Rn.ExecE

end Go.Sg
end
section
/- Deeds, the reference: bytes, Text, Id, Make, Few. -/
set_option maxRecDepth 4000
namespace Go.Sg
open Go.Rn Go.Proofs Go.Dee Go.Rec Go.RowKit Go.Sha Go.Cod Go.NT
attribute [local irreducible] Go.Rn.RetsX Go.Rn.RunLN Go.Rn.AsyN Go.Rn.RunL Go.Rn.RunE Go.Rn.Asy Go.Rn.OpV Go.Rn.OpE Go.Rn.ExecE
theorem bytesV_snoc {l : List UInt8} {i : Nat} (h : i < l.length) : bytesV (l.take (i + 1)) = bytesV (l.take i) ++ [.int .u8 ((l.getD i 0).toNat : Int)] := by
 rw [List.take_add_one, List.getElem?_eq_getElem h, List.getD_eq_getElem?_getD, List.getElem?_eq_getElem h]
 simp only [bytesV, List.map_append]
 rfl
set_option maxRecDepth 4000 in
set_option maxHeartbeats 2000000 in
theorem rbytes_ok (x : Dg) (w : World) : Rets Tryz.prog 99 [.agg (digC x).toArray] w fun r w' => r = .agg (rowT x).toArray ∧ Ext w w' := by
 refine RetsX.of (nt := 19) Tryz.func99 (by kernel_rfl) rfl rfl (by simp) (by simp only [argEnv]; rfl) ?_
 have X := ExtB.refl (fun _ => False) w
 repeat' (first | refine ZzQ ?_ | refine ZzR ?_)
 refine RunL.box rfl rfl rfl fun B1 w1_ a_ => ?_
 have Z1 : Blk w1_ B1 (digC x) 32 := a_.at_
 have gB1 := a_.ge X
 replace X := X.trans a_.ext
 clear a_
 skip
 refine RunL.alloc Tryz.tOk rfl rfl rfl fun B2 w2_ a_ => ?_
 have Z2 : Blk w2_ B2 (z4) 116 := a_.at_
 have gB2 := a_.ge X
 have n1_2 : B1 ≠ B2 := by have := Z1.lt; have := a_.eq; omega
 have n2_1 : B2 ≠ B1 := Ne.symm n1_2
 replace Z1 := Z1.up a_.ext
 replace X := X.trans a_.ext
 clear a_
 repeat' (first | refine ZzQ ?_ | refine ZzR ?_ | refine ZzN ?_)
 refine RunL.ex rfl rfl rfl (OpE.buildSl Tryz.tOk [] rfl rfl rfl rfl rfl rfl (by simp)) ?_
 rintro _ w3 ⟨B, rfl, a3⟩
 have O3 : w3.ownsRow w.heap.size 5 1 (.slice (some ⟨B, 0, none⟩) 0 0) (x.1.take 0).length (bytesV (x.1.take 0)) := ownsRow_added (cs := []) a3 (a3.ge X) rfl (by decide)
 have hne : ∀ k, (Value.slice (some ⟨B, 0, none⟩) 0 0).ownBlock = some k → k ≠ B1 ∧ k ≠ B2 := fun k hk => by
  simp [Value.ownBlock] at hk
  have := a3.eq; have := Z1.lt; have := Z2.lt
  omega
 replace X := X.trans a3.ext
 replace Z1 := Z1.up a3.ext
 replace Z2 := Z2.up a3.ext
 clear a3
 repeat' (first | (with_reducible refine RunLN.chk ?_; refine RunLN.int (by (rfl)) ?_) | refine ZzA ?_ | refine RunL.ev Tryz.tOk rfl rfl rfl ?_ | refine ZzQ ?_ | refine ZzR ?_ | refine ZzN ?_ | refine ZzB ?_)
 refine RunE.loop (ι := Nat × Value) (fun s => [(0, .agg (digC x).toArray), (1, .pointer (some ⟨B1, 0, none⟩)), (2, .pointer (some ⟨B2, 0, none⟩)), (3, s.2), (4, .int .i64 (s.1 : Int))])
  (fun s w' => s.1 ≤ 32 ∧ w'.ownsRow w.heap.size 5 1 s.2 (x.1.take s.1).length (bytesV (x.1.take s.1)) ∧ (∀ k, s.2.ownBlock = some k → k ≠ B1 ∧ k ≠ B2) ∧ Ext w w' ∧ Blk w' B1 (digC x) 32 ∧ Blk w' B2 z4 116) (fun s => 32 - s.1) (0, .slice (some ⟨B, 0, none⟩) 0 0) (by repeat (first | exact Sub.nil _ | refine Sub.cons rfl ?_))
  ⟨Nat.zero_le _, O3, hne, X, Z1, Z2⟩ ?_
 clear X Z1 Z2 hne O3
 rintro ⟨i, y⟩ w4 ⟨hi, hO, hne, X, Z1, Z2⟩ again
 simp only at hi hO hne again ⊢
 by_cases hlt : i < 32
 ·have hx := digC_at (x := x) hlt
  have e1 := bytesV_snoc (l := x.1) (i := i) (by rw [x.2]; exact hlt)
  have e2 : (x.1.take (i + 1)).length = (x.1.take i).length + 1 := by simp [x.2]; omega
  have hfl : (x.1.take i).length ≤ 32 := by simp; omega
  have next : ∀ (u' : Value) w', _ → _ → _ → _ → _ → _ := fun u' w' a b c d e => again (i + 1, u') w' (by simp only; omega) ⟨by simp only; omega, a, b, c, d, e⟩
  simp only [e1, e2] at next
  clear again e1 e2
  generalize x.1.take i = f at hO next hfl
  obtain ⟨dy, cy, rfl⟩ := isSl_slice (isSl_own hO)
  repeat' (first | (with_reducible refine RunLN.decT ?_ ?_; focus omega) | (with_reducible refine RunLN.chk ?_; refine RunLN.int (by (rfl)) ?_) | refine ZzA ?_ | refine RunL.ev Tryz.tOk rfl rfl rfl ?_ | refine RunL.evV rfl rfl rfl ((OpV.indexA Tryz.tOk i rfl rfl rfl rfl hlt)) ?_ | refine RunL.evV rfl rfl rfl ((OpV.load1 Tryz.tOk rfl rfl rfl (Blk.cell Z1 hx))) ?_ | refine ZzT rfl rfl ?_ | refine ZzQ ?_ | refine ZzR ?_ | refine ZzN ?_ | refine ZzB ?_ | refine ZzK ?_)
  refine RunL.ex rfl rfl rfl (OpE.buildSl Tryz.tOk [cB x i] rfl rfl rfl rfl rfl rfl (by simp [Value.cells, cB])) ?_
  rintro _ w5 ⟨B5, rfl, a5⟩
  have h5 : IsSl w5 1 (.slice (some ⟨B5, 0, none⟩) 1 1) 1 [cB x i] := isSl_added (n := 1) (sz := 1) a5 rfl
  replace hO := hO.up a5.ext
  replace X := X.trans a5.ext
  replace Z1 := Z1.up a5.ext
  replace Z2 := Z2.up a5.ext
  clear a5
  skip
  have l1 := Z1.lt
  have l2 := Z2.lt
  refine RunL.ex rfl rfl rfl (OpE.append' Tryz.tOk rfl rfl rfl rfl rfl rfl hO h5 (by rfl) (by show _ * 1 ≤ _; omega) (by omega) X.size) ?_
  rintro u' u5 ⟨O5, E5, hown⟩
  have hne5 : ∀ k, u'.ownBlock = some k → k ≠ B1 ∧ k ≠ B2 := fun k hk => ⟨fun e => (hne _ (hown _ hk (by omega))).1 e, fun e => (hne _ (hown _ hk (by omega))).2 e⟩
  replace X : Ext w u5 := X.write E5 (by intro k hk hlt; have := ownsRow_ge hO hk; omega)
  replace Z1 := Z1.ext E5 (fun h => (hne _ h).1 rfl)
  replace Z2 := Z2.ext E5 (fun h => (hne _ h).2 rfl)
  clear E5 hown h5 hO
  repeat' (first | (with_reducible refine RunLN.chk ?_; refine RunLN.int (by (first | (refine wr_i64 ?_ ?_; omega; omega) | rfl)) ?_) | refine ZzA ?_ | refine RunL.ev Tryz.tOk rfl rfl rfl ?_ | refine ZzR ?_ | refine ZzN ?_ | refine ZzI ?_)
  exact RunE.weaken (by repeat (first | exact Sub.nil _ | refine Sub.cons rfl ?_)) (next _ _ O5 hne5 X Z1 Z2)
 ·obtain rfl : i = 32 := by omega
  have e1 : x.1.take 32 = x.1 := List.take_of_length_le (by rw [x.2]; exact Nat.le_refl _)
  rw [e1] at hO
  have hb := isSl_own hO
  clear again hO
  repeat' (first | with_reducible refine ZzG rfl ?_ | (with_reducible refine RunLN.chk ?_; refine RunLN.int (by (rfl)) ?_) | refine ZzA ?_ | refine RunL.ev Tryz.tOk rfl rfl rfl ?_ | refine RunL.evV rfl rfl rfl ((OpV.b2sSl (l := x.1) Tryz.tOk rfl rfl rfl rfl hb)) ?_ | refine ZzF rfl rfl ?_ | refine ZzQ ?_ | refine ZzR ?_ | refine ZzN ?_ | refine RunE.exit rfl ?_)
  refine RunL.call rfl rfl rfl (rtext_ok _ _) ?_
  rintro _ _ ⟨rfl, Xa_⟩
  replace Z2 := Z2.up Xa_
  replace X := X.trans Xa_
  clear Xa_
  skip
  refine RunL.storeW (vs := rowT x) Tryz.tOk rfl rfl rfl rfl rfl Z2 rfl rfl fun w_ t_ => ?_
  replace X := X.own t_.ext gB2
  replace Z2 : Blk w_ B2 (rowT x) 116 := t_.at_
  clear t_
  repeat' (first | refine ZzN ?_)
  exact RunE.retFn Tryz.func99 (.cell rfl (.agg Tryz.tOk rfl rfl rfl Z2.row) .nil) ⟨rfl, X⟩
set_option maxRecDepth 4000 in
set_option maxHeartbeats 4000000 in
theorem rText_ok (d : Deed) (u v : Value) (w : World) (hs : LDg w u d.seen) (hb : LBy w v d.data) (hf : formedD d = true) :
  Rets Tryz.prog 75 [.agg (dCells d u v).toArray] w fun r w' => w'.ownsRow w.heap.size 5 1 r (textD d).length (bytesV (textD d)) ∧ Ext w w' := by
 have hn := (formedD_inv hf).1
 have henc := deed_enc hf
 have hdep := deed_depth d
 have hsl : d.seen.length ≤ 64 := hn.2.2.2.2.2.2.1
 have hdl : d.data.length ≤ 65536 := hn.2.2.2.2.2.2.2
 clear hn
 refine RetsX.of (nt := 49) Tryz.func75 (by kernel_rfl) rfl rfl (by simp) (by simp only [argEnv]; rfl) ?_
 have X := ExtB.refl (fun _ => False) w
 repeat' (first | refine ZzQ ?_ | refine ZzR ?_)
 refine RunL.box rfl rfl rfl fun B1 w1_ a_ => ?_
 have Z1 : Blk w1_ B1 (dCells d u v) 38 := a_.at_
 have gB1 := a_.ge X
 replace X := X.trans a_.ext
 clear a_
 repeat' (first | refine ZzA ?_ | refine RunL.ev Tryz.tOk rfl rfl rfl ?_ | refine ZzQ ?_ | refine ZzR ?_ | refine ZzN ?_)
 refine RunL.ex rfl rfl rfl (OpE.buildSl Tryz.tOk [] rfl rfl rfl rfl rfl rfl (by simp)) ?_
 rintro _ w3 ⟨B, rfl, a3⟩
 have O3 : w3.ownsRow w.heap.size 116 4 (.slice (some ⟨B, 0, none⟩) 0 0) (d.seen.take 0).length (flat rowT (d.seen.take 0)) := ownsRow_added (cs := []) a3 (a3.ge X) rfl (by decide)
 have hne : ∀ k, (Value.slice (some ⟨B, 0, none⟩) 0 0).ownBlock = some k → k ≠ B1 := fun k hk => by
  simp [Value.ownBlock] at hk
  have := a3.eq; have := Z1.lt
  omega
 replace X := X.trans a3.ext
 replace Z1 := Z1.up a3.ext
 clear a3
 repeat' (first | (with_reducible refine RunLN.chk ?_; refine RunLN.int (by (rfl)) ?_) | refine ZzA ?_ | refine RunL.ev Tryz.tOk rfl rfl rfl ?_ | refine ZzQ ?_ | refine ZzR ?_ | refine ZzN ?_ | refine ZzB ?_)
 refine RunE.loop (ι := Nat × Value) (fun s => [(0, .agg (dCells d u v).toArray), (1, .pointer (some ⟨B1, 0, none⟩)), (2, .slice none 0 0), (3, s.2), (4, .int .i64 (s.1 : Int))])
  (fun s w' => s.1 ≤ d.seen.length ∧ w'.ownsRow w.heap.size 116 4 s.2 (d.seen.take s.1).length (flat rowT (d.seen.take s.1)) ∧ (∀ k, s.2.ownBlock = some k → k ≠ B1) ∧ Ext w w' ∧ Blk w' B1 (dCells d u v) 38) (fun s => d.seen.length - s.1) (0, .slice (some ⟨B, 0, none⟩) 0 0) (by repeat (first | exact Sub.nil _ | refine Sub.cons rfl ?_))
  ⟨Nat.zero_le _, O3, hne, X, Z1⟩ ?_
 clear X Z1 hne O3
 rintro ⟨i, y⟩ w3 ⟨hi, hO, hne, X, Z1⟩ again
 simp only at hi hO hne again ⊢
 by_cases hlt : i < d.seen.length
 ·obtain ⟨b1, o1, c1, rfl, hr1, -⟩ := isL_held hs hlt
  obtain ⟨x, hx⟩ : ∃ x, d.seen[i]? = some x := ⟨_, List.getElem?_eq_getElem hlt⟩
  have hrx := flat_row encG hr1 hx
  have e1 : d.seen.take (i + 1) = d.seen.take i ++ [x] := by rw [List.take_add_one, hx]; rfl
  have hfl : (d.seen.take i).length ≤ 100 := by simp; omega
  have next : ∀ (u' : Value) w', _ → _ → _ → _ → _ := fun u' w' a b c d => again (i + 1, u') w' (by simp only; omega) ⟨by simp only; omega, a, b, c, d⟩
  simp only [e1] at next
  clear again e1
  generalize d.seen.take i = f at hO next hfl
  obtain ⟨dy, cy, rfl⟩ := isSl_slice (isSl_own hO)
  repeat' (first | (with_reducible refine RunLN.decT ?_ ?_; focus omega) | (with_reducible refine RunLN.chk ?_; refine RunLN.int (by (rfl)) ?_) | refine ZzA ?_ | refine RunL.ev Tryz.tOk rfl rfl rfl ?_ | refine RunL.evV rfl rfl rfl (OpV.load1 Tryz.tOk rfl rfl rfl (Blk.cell Z1 rfl)) ?_ | refine RunL.evV rfl rfl rfl (OpV.indexS Tryz.tOk i rfl rfl rfl (by first | rfl | omega) (by omega)) ?_ | refine RunL.evV rfl rfl rfl (OpV.loadN Tryz.tOk rfl rfl rfl rfl (hrx.up X)) ?_ | refine ZzT rfl rfl ?_ | refine ZzQ ?_ | refine ZzR ?_ | refine ZzN ?_ | refine ZzB ?_ | refine ZzK ?_)
  refine RunL.call rfl rfl rfl (rbytes_ok x _) ?_
  rintro _ _ ⟨rfl, Xa_⟩
  replace Z1 := Z1.up Xa_
  replace hO := hO.up Xa_
  replace X := X.trans Xa_
  clear Xa_
  skip
  refine RunL.ex rfl rfl rfl (OpE.buildSl Tryz.tOk [.agg (rowT x).toArray] rfl rfl rfl rfl rfl rfl (by simp [Value.cells])) ?_
  rintro _ w_ ⟨B_, rfl, a_⟩
  have hx1 : LTx w_ (.slice (some ⟨B_, 0, none⟩) 1 1) [x] := (isSl_added (n := 1) (sz := 4) a_ rfl)
  replace Z1 := Z1.up a_.ext
  replace hO := hO.up a_.ext
  replace X := X.trans a_.ext
  clear a_
  skip
  have l1 := Z1.lt
  refine RunL.ex rfl rfl rfl (OpE.append' Tryz.tOk rfl rfl rfl rfl rfl rfl hO hx1 (flat_plain encT' [x]) (by show _ * 56 ≤ _; simp only [List.length_singleton]; omega) (by simp only [List.length_singleton]; omega) X.size) ?_
  rintro u' u5 ⟨O5, E5, hown⟩
  have hne5 : ∀ k, u'.ownBlock = some k → k ≠ B1 := fun k hk e => hne _ (hown _ hk (by omega)) e
  replace X : Ext w u5 := X.write E5 (by intro k hk hlt; have := ownsRow_ge hO hk; omega)
  replace Z1 := Z1.ext E5 (fun h => hne _ h rfl)
  clear E5 hown hx1 hO
  repeat' (first | (with_reducible refine RunLN.chk ?_; refine RunLN.int (by (first | (refine wr_i64 ?_ ?_; omega; omega) | rfl)) ?_) | refine ZzA ?_ | refine RunL.ev Tryz.tOk rfl rfl rfl ?_ | refine ZzR ?_ | refine ZzN ?_ | refine ZzI ?_)
  exact RunE.weaken (by repeat (first | exact Sub.nil _ | refine Sub.cons rfl ?_)) (next _ _ (by rw [List.length_append, flat_append]; exact O5) hne5 X Z1)
 ·obtain rfl : i = d.seen.length := by omega
  rw [List.take_length] at hO
  obtain ⟨dy, cy, rfl⟩ := isSl_slice (isSl_own hO)
  have hvs : LTx w3 (.slice dy d.seen.length cy) d.seen := isSl_own hO
  clear again hO hne
  replace hb := hb.up X
  have clist := rlist_ok
  have cenc := rEncode_ok
  repeat' (first | (with_reducible refine RunLN.decF ?_ ?_; focus omega) | (with_reducible refine RunLN.chk ?_; refine RunLN.int (by (rfl)) ?_) | refine ZzA ?_ | refine RunL.ev Tryz.tOk rfl rfl rfl ?_ | refine RunL.evV rfl rfl rfl (OpV.load1 Tryz.tOk rfl rfl rfl (Blk.cell Z1 rfl)) ?_ | refine RunL.evV rfl rfl rfl (OpV.lenSl Tryz.tOk rfl rfl hs) ?_ | refine ZzF rfl rfl ?_ | refine ZzQ ?_ | refine ZzR ?_ | refine ZzN ?_ | refine RunE.exit rfl ?_)
  refine RunE.draw (fun _ => False) mix ?_
  intro wd_ Xd_
  repeat' (first | (with_reducible refine AsyN.chk ?_; refine AsyN.int (by (rfl)) ?_) | refine AsyN.any ?_ | refine Asy.ev Tryz.tOk rfl rfl rfl ?_ | refine Asy.evV rfl rfl rfl rfl (fun _ X_ => OpV.load1 Tryz.tOk rfl rfl rfl (Blk.cell (Z1.up (Xd_.trans X_)) rfl)) ?_ | refine Asy.callN rfl rfl rfl (fun _ _ => (rint_ok _ _)) ?_ | refine Asy.callN rfl rfl rfl (fun _ _ => (rbytes_ok _ _)) ?_ | refine Asy.callN rfl rfl rfl (fun _ _ => (rlist_ok _ _ _ _)) ?_ | refine Asy.callN rfl rfl rfl (fun _ _ => (rtext_ok _ _)) ?_ | refine Asy.evV rfl rfl rfl rfl (fun _ X_ => OpV.loadN Tryz.tOk rfl rfl rfl rfl ((row_prev (Blk.row Z1)).up (Xd_.trans X_))) ?_ | refine Asy.evV rfl rfl rfl rfl (fun _ X_ => (OpV.b2sSl (l := d.data) Tryz.tOk rfl rfl rfl rfl (hb.up (Xd_.trans X_)))) ?_)
  refine Asy.sat0 (fun q w' => ∃ B, q = .slice (some ⟨B, 0, none⟩) 6 6 ∧ IsSl w' 4 q 6 (rowN d.person ++ rowN d.no ++ rowN d.at_ ++ rowT d.prev ++ rowL (.slice dy d.seen.length cy) ++ rowX d.data)) rfl rfl rfl rfl (fun q w' w'' _ e h => by obtain ⟨B, h1, h2⟩ := h; exact ⟨B, h1, h2.up e⟩) (fun w' _ => ?_) ?_
  ·refine OpE.mono (OpE.buildSl Tryz.tOk [.agg (rowN d.person).toArray, .agg (rowN d.no).toArray, .agg (rowN d.at_).toArray, .agg (rowT d.prev).toArray, .agg (rowL (.slice dy d.seen.length cy)).toArray, .agg (rowX d.data).toArray] rfl rfl rfl rfl rfl rfl (by simp [Value.cells])) ?_ fun _ _ h => h
   rintro _ w'' ⟨B, rfl, a⟩
   exact ⟨a.ext, B, rfl, isSl_added (n := 6) (sz := 4) a rfl⟩
  refine Asy.sat1 0 (fun q w' => ∃ B, q = .agg (rowL (.slice (some ⟨B, 0, none⟩) 6 6)).toArray ∧ IsSl w' 4 (.slice (some ⟨B, 0, none⟩) 6 6) 6 (rowN d.person ++ rowN d.no ++ rowN d.at_ ++ rowT d.prev ++ rowL (.slice dy d.seen.length cy) ++ rowX d.data)) rfl rfl rfl rfl rfl rfl (fun q w' w'' _ e h => by obtain ⟨B, h1, h2⟩ := h; exact ⟨B, h1, h2.up e⟩) (fun w' q e hx => ?_) ?_
  ·obtain ⟨B, rfl, h2⟩ := hx
   refine OpE.mono (OpE.call rfl (clist _ _ _ _)) ?_ fun _ _ h => h
   rintro _ w'' ⟨rfl, h⟩
   exact ⟨h, B, rfl, h2.up h⟩
  refine Asy.sat1 0 (fun q w' => ∃ r, q = .tuple #[r, .int .i64 0] ∧ w'.ownsRow w.heap.size 5 1 r (textD d).length (bytesV (textD d))) rfl rfl rfl rfl rfl rfl (fun q w' w'' _ e h => by obtain ⟨r, h1, h2⟩ := h; exact ⟨r, h1, h2.up e⟩) (fun w' q e hx => ?_) ?_
  ·obtain ⟨B, rfl, h2⟩ := hx
   refine OpE.mono (OpE.call rfl (cenc _ _ w' (deed_in hf (hvs.up (Xd_.trans e)) h2) hdep (Nat.le_trans henc (by decide)))) ?_ fun _ _ h => h
   rintro _ w'' ⟨r, rfl, O, h⟩
   exact ⟨h, r, rfl, ownsRow_base O (Nat.le_trans X.size (Xd_.trans e).size)⟩
  refine Asy.sat1P Tryz.tOk 0 (fun q w' => ∃ r, q = .tuple #[r, .int .i64 0] ∧ w'.ownsRow w.heap.size 5 1 r (textD d).length (bytesV (textD d))) rfl rfl rfl rfl rfl rfl (fun q w' w'' _ e h => by obtain ⟨r, h1, h2⟩ := h; exact ⟨r, h1, h2.up e⟩) (fun w' q e hx => ⟨q, rfl, hx⟩) ?_
  refine Asy.sat1P Tryz.tOk 0 (fun q w' => w'.ownsRow w.heap.size 5 1 q (textD d).length (bytesV (textD d))) rfl rfl rfl rfl rfl rfl (fun q w' w'' _ e h => h.up e) (fun w' q e hx => by obtain ⟨r, rfl, h⟩ := hx; exact ⟨r, rfl, h⟩) ?_
  refine Asy.val1P Tryz.tOk 1 (v := .int .i64 0) rfl rfl rfl rfl rfl rfl (fun w' q e hx => by obtain ⟨r, rfl, h⟩ := hx; rfl) ?_
  refine Asy.sat1P Tryz.tOk 0 (fun q w' => w'.ownsRow w.heap.size 5 1 q (textD d).length (bytesV (textD d))) rfl rfl rfl rfl rfl rfl (fun q w' w'' _ e h => h.up e) (fun w' q e hx => ⟨q, rfl, hx⟩) ?_
  refine Asy.tail (by kernel_rfl) ?_
  intro we_ Xe_
  simp only [satsAll]
  rintro rt hR _ - _ - _ - _ - _ -
  replace X := X.trans (Xd_.trans Xe_)
  clear Xd_ Xe_
  repeat' (first | (with_reducible refine RunLN.chk ?_; refine RunLN.int (by (rfl)) ?_) | refine ZzA ?_ | refine RunL.ev Tryz.tOk rfl rfl rfl ?_ | refine ZzQ ?_ | refine ZzR ?_ | refine ZzN ?_)
  exact RunE.retFn Tryz.func75 (.tmp rfl .nil) ⟨hR, X⟩
theorem rtag_ok (d : Deed) (v : Value) (w : World) (hv : LBy w v (textD d)) (hf : formedD d = true) :
  Rets Tryz.prog 113 [.string ⟨#[100, 101, 101, 100]⟩, v] w fun r w' => r = .agg (digC (idD d)).toArray ∧ Ext w w' := by
 have h := rtagged_ok ⟨#[100, 101, 101, 100]⟩ v (textD d) w (by decide) hv (Nat.le_trans (text_len hf) (by decide))
 have e : digC (idD d) = bytesV (tagged deedB (textD d)) := digC_eq (idD d)
 rw [e]
 exact h
set_option maxRecDepth 4000 in
theorem rId_ok (d : Deed) (u v : Value) (w : World) (hs : LDg w u d.seen) (hb : LBy w v d.data) (hl : d.seen.length < 9223372036854775808) (hl' : d.data.length < 9223372036854775808) :
  Rets Tryz.prog 85 [.agg (dCells d u v).toArray] w fun r w' => r = .tuple #[.agg (digC (idG d)).toArray, .int .i64 (idE d)] ∧ Ext w w' := by
 have c1 := fun w h1 h2 => rformed_dd d u v w h1 h2 hl hl'
 unfold idG idE
 cases hf : formedD d with
 | false =>
  rw [hf] at c1
  refine RetsX.of (nt := 11) Tryz.func85 (by kernel_rfl) rfl rfl (by simp) (by simp only [argEnv]; rfl) ?_
  have X := ExtB.refl (fun _ => False) w
  repeat' (first | refine ZzQ ?_ | refine ZzR ?_)
  refine RunL.box rfl rfl rfl fun B1 w1_ a_ => ?_
  have Z1 : Blk w1_ B1 (dCells d u v) 38 := a_.at_
  have gB1 := a_.ge X
  replace X := X.trans a_.ext
  clear a_
  skip
  refine RunL.alloc Tryz.tOk rfl rfl rfl fun B2 w2_ a_ => ?_
  have Z2 : Blk w2_ B2 (digC zeroG) 32 := a_.at_
  have gB2 := a_.ge X
  have n1_2 : B1 ≠ B2 := by have := Z1.lt; have := a_.eq; omega
  have n2_1 : B2 ≠ B1 := Ne.symm n1_2
  replace Z1 := Z1.up a_.ext
  replace X := X.trans a_.ext
  clear a_
  repeat' (first | (with_reducible refine RunLN.chk ?_; refine RunLN.int (by (rfl)) ?_) | refine ZzA ?_ | refine RunL.ev Tryz.tOk rfl rfl rfl ?_ | refine RunL.evV rfl rfl rfl (OpV.loadN Tryz.tOk rfl rfl rfl rfl (Blk.row Z1)) ?_ | refine ZzQ ?_ | refine ZzR ?_ | refine ZzN ?_)
  refine RunL.call rfl rfl rfl (c1 _ (hs.up X) (hb.up X)) ?_
  rintro _ _ ⟨rfl, Xa_⟩
  replace Z2 := Z2.up Xa_
  replace X := X.trans Xa_
  clear Xa_
  clear Z1
  repeat' (first | with_reducible refine ZzP rfl ?_ | refine ZzA ?_ | refine RunL.ev Tryz.tOk rfl rfl rfl ?_ | refine ZzT rfl rfl ?_ | refine ZzQ ?_ | refine ZzR ?_ | refine ZzN ?_)
  refine RunL.storeW (vs := digC zeroG) Tryz.tOk rfl rfl rfl rfl rfl Z2 rfl rfl fun w_ t_ => ?_
  replace X := X.own t_.ext gB2
  replace Z2 : Blk w_ B2 (digC zeroG) 32 := t_.at_
  clear t_
  repeat' (first | (with_reducible refine RunLN.chk ?_; refine RunLN.int (by (rfl)) ?_) | refine RunL.ev Tryz.tOk rfl rfl rfl ?_ | refine ZzN ?_)
  exact RunE.retFn Tryz.func85 (.cell rfl (.agg Tryz.tOk rfl rfl rfl Z2.row) (.tmp rfl .nil)) ⟨rfl, X⟩
 | true =>
  rw [hf] at c1
  have c2 := fun w h1 h2 => rText_ok d u v w h1 h2 hf
  have c3 := fun r w h => rtag_ok d r w h hf
  refine RetsX.of (nt := 11) Tryz.func85 (by kernel_rfl) rfl rfl (by simp) (by simp only [argEnv]; rfl) ?_
  have X := ExtB.refl (fun _ => False) w
  repeat' (first | refine ZzQ ?_ | refine ZzR ?_)
  refine RunL.box rfl rfl rfl fun B1 w1_ a_ => ?_
  have Z1 : Blk w1_ B1 (dCells d u v) 38 := a_.at_
  have gB1 := a_.ge X
  replace X := X.trans a_.ext
  clear a_
  skip
  refine RunL.alloc Tryz.tOk rfl rfl rfl fun B2 w2_ a_ => ?_
  have Z2 : Blk w2_ B2 (digC zeroG) 32 := a_.at_
  have gB2 := a_.ge X
  have n1_2 : B1 ≠ B2 := by have := Z1.lt; have := a_.eq; omega
  have n2_1 : B2 ≠ B1 := Ne.symm n1_2
  replace Z1 := Z1.up a_.ext
  replace X := X.trans a_.ext
  clear a_
  repeat' (first | (with_reducible refine RunLN.chk ?_; refine RunLN.int (by (rfl)) ?_) | refine ZzA ?_ | refine RunL.ev Tryz.tOk rfl rfl rfl ?_ | refine RunL.evV rfl rfl rfl (OpV.loadN Tryz.tOk rfl rfl rfl rfl (Blk.row Z1)) ?_ | refine ZzQ ?_ | refine ZzR ?_ | refine ZzN ?_)
  refine RunL.call rfl rfl rfl (c1 _ (hs.up X) (hb.up X)) ?_
  rintro _ _ ⟨rfl, Xa_⟩
  replace Z1 := Z1.up Xa_
  replace Z2 := Z2.up Xa_
  replace X := X.trans Xa_
  clear Xa_
  repeat' (first | with_reducible refine ZzG rfl ?_ | refine ZzA ?_ | refine RunL.ev Tryz.tOk rfl rfl rfl ?_ | refine RunL.evV rfl rfl rfl (OpV.loadN Tryz.tOk rfl rfl rfl rfl (Blk.row Z1)) ?_ | refine ZzF rfl rfl ?_ | refine ZzQ ?_ | refine ZzR ?_ | refine ZzN ?_ | refine ZzK ?_)
  refine RunL.call rfl rfl rfl (c2 _ (hs.up X) (hb.up X)) ?_
  rintro r w5 ⟨O5, Xa_⟩
  have O6 : LBy w5 r (textD d) := isSl_own O5
  clear O5
  replace Z2 := Z2.up Xa_
  replace X := X.trans Xa_
  clear Xa_ Z1
  skip
  refine RunL.call rfl rfl rfl (c3 r _ O6) ?_
  rintro _ _ ⟨rfl, Xa_⟩
  replace Z2 := Z2.up Xa_
  replace X := X.trans Xa_
  clear Xa_
  skip
  refine RunL.storeW (vs := digC (idD d)) Tryz.tOk rfl rfl rfl rfl rfl Z2 rfl rfl fun w_ t_ => ?_
  replace X := X.own t_.ext gB2
  replace Z2 : Blk w_ B2 (digC (idD d)) 32 := t_.at_
  clear t_
  repeat' (first | (with_reducible refine RunLN.chk ?_; refine RunLN.int (by (rfl)) ?_) | refine RunL.ev Tryz.tOk rfl rfl rfl ?_ | refine ZzN ?_)
  exact RunE.retFn Tryz.func85 (.cell rfl (.agg Tryz.tOk rfl rfl rfl Z2.row) (.tmp rfl .nil)) ⟨rfl, X⟩
end Go.Sg
end
section
/- Merge: the reference: right deeds, equal lists, what is left. -/
set_option maxRecDepth 4000
namespace Go.Rn
open Go.RowKit
theorem own_empty {w w' : World} {B base : Nat} {e : TypeId} {sz : Nat} (a : Added w w' B (.cells #[] e (0, 0))) (hb : base ≤ w.heap.size) : w'.ownsRow base e sz (.slice (some ⟨B, 0, none⟩) 0 0) 0 [] := by
 refine ⟨by simp, .inr ⟨B, 0, #[], rfl, by have := a.eq; omega, a.at_, Nat.le_refl _, by simp [maxLen], by simp, by simp⟩⟩
section
variable {P : Program} {w : World} {env : Env} {dst : Option Tmp} {ty : TypeId} {pos : String} {after : Array Edge} {guard : Option (Nat × Bool)}
theorem OpE.build00 {T : Tab} (hT : T.Ok P) (t e : TypeId) {sz : Nat} {ag : Bool} {s b : Nat} {z : List Value} {a u : Bool} {ie : TI} (ht : T.get t = some ⟨.slc sz ag e, s, b, z, a, u⟩) (he : T.get e = some ie) (hz : ie.zero.length = sz) :
  OpE P env w ⟨dst, .buildSlice t 0 #[], ty, pos, after, guard⟩ (fun v w' => (∃ B, v = .slice (some ⟨B, 0, none⟩) 0 0) ∧ w'.ownsRow w.heap.size e sz v 0 [] ∧ Ext w w') fun _ _ => False := by
 refine OpE.mono (OpE.buildSl (w := w) (env := env) hT [] ht he hz (by simp [Nat.ble]) rfl rfl (by simp)) ?_ fun _ _ h => h
 rintro v w' ⟨B, rfl, a⟩
 exact ⟨⟨B, rfl⟩, own_empty a (Nat.le_refl _), a.ext⟩
end
end Go.Rn
namespace Go.Mer
open Go.Rn Go.Rec Go.Dee Go.RowKit
def sameL : List Deed → List Deed → Bool
 | [], [] => true
 | x :: a, y :: b => sameD x y && sameL a b
 | _, _ => false
theorem sameL_iff : ∀ {a b : List Deed}, sameL a b = true ↔ a = b
 | [], [] => by simp [sameL]
 | [], y :: b => by simp [sameL]
 | x :: a, [] => by simp [sameL]
 | x :: a, y :: b => by
  unfold sameL
  rw [Bool.and_eq_true, sameD_iff, sameL_iff, List.cons.injEq]
theorem sameL_len : ∀ {a b : List Deed}, a.length ≠ b.length → sameL a b = false
 | [], [], h => absurd rfl h
 | [], _ :: _, _ => rfl
 | _ :: _, [], _ => rfl
 | x :: a, y :: b, h => by
  unfold sameL
  rw [sameL_len (fun e => h (by simp [e])), Bool.and_false]
theorem map_drop_cons {α β : Type} (f : α → β) {l : List α} {i : Nat} {x : α} (h : l[i]? = some x) : (l.drop i).map f = f x :: (l.drop (i + 1)).map f := by
 obtain ⟨hi, e⟩ := List.getElem?_eq_some_iff.1 h
 rw [List.drop_eq_getElem_cons hi, e, List.map_cons]
end Go.Mer
namespace Go.Sg
open Go.Rn Go.Proofs Go.Dee Go.Mer Go.Rec Go.RowKit Go.Sha Go.Cod Go.NT
attribute [local irreducible] Go.Rn.RetsX Go.Rn.RunLN Go.Rn.AsyN Go.Rn.RunL Go.Rn.RunE Go.Rn.Asy Go.Rn.OpV Go.Rn.OpE Go.Rn.ExecE
set_option maxRecDepth 4000 in
set_option maxHeartbeats 4000000 in
theorem rfine_ok (ks : List Int) (kv : Value) (d : Deed) (u v : Value) (w : World) (hk : LIn w kv ks) (hkl : ks.length < 9223372036854775808) (hki : KsI ks) (hd : WfD d) (hs : LDg w u d.seen) (hb : LBy w v d.data) (hl : d.seen.length < 9223372036854775808) (hl' : d.data.length < 9223372036854775808) :
  Rets Tryz.prog 49 [kv, .agg (dCells d u v).toArray] w fun r w' => r = .bool (fineD ks d) ∧ Ext w w' := by
 have c1 := fun w h1 h2 => rformed_dd d u v w h1 h2 hl hl'
 cases hf : formedD d with
 | false =>
  rw [hf] at c1
  have hr : fineD ks d = false := by unfold fineD; rw [hf]; rfl
  refine RetsX.of (nt := 34) Tryz.func49 (by kernel_rfl) rfl rfl (by simp) (by simp only [argEnv]; rfl) ?_
  have X := ExtB.refl (fun _ => False) w
  repeat' (first | refine ZzQ ?_ | refine ZzR ?_)
  refine RunL.box rfl rfl rfl fun B3 w3_ a_ => ?_
  have Z3 : Blk w3_ B3 (dCells d u v) 38 := a_.at_
  have gB3 := a_.ge X
  replace X := X.trans a_.ext
  clear a_
  repeat' (first | with_reducible refine ZzG rfl ?_ | refine RunL.ev Tryz.tOk rfl rfl rfl ?_ | refine ZzQ ?_ | refine ZzN ?_)
  refine RunE.draw (fun _ => False) mix ?_
  intro wd_ Xd_
  repeat' (first | with_reducible refine AsyN.boolF rfl ?_ | refine AsyN.any ?_ | refine Asy.ev Tryz.tOk rfl rfl rfl ?_ | refine Asy.unwantedD rfl rfl rfl ?_ | refine Asy.evV rfl rfl rfl rfl (fun _ X_ => OpV.loadN Tryz.tOk rfl rfl rfl rfl (Blk.row (Z3.up (Xd_.trans X_)))) ?_ | refine Asy.callN rfl rfl rfl (fun _ X_ => (c1 _ (hs.up (X.trans (Xd_.trans X_))) (hb.up (X.trans (Xd_.trans X_))))) ?_)
  refine Asy.end_ (by kernel_rfl) ?_
  intro we_ Xe_
  replace X := X.trans (Xd_.trans Xe_)
  clear Xd_ Xe_
  repeat' (first | refine ZzN ?_)
  exact RunE.retFn Tryz.func49 (.tmp rfl .nil) ⟨by rw [hr]; rfl, X⟩
 | true =>
  rw [hf] at c1
  obtain ⟨⟨p0, p1, -⟩, -⟩ := formedD_inv hf
  by_cases hlt : d.person < (ks.length : Int)
  ·have hg := keyOf_get p0 hlt
   obtain ⟨b1, o1, cc, rfl, hr1, -⟩ := isL_held hk (show d.person.toNat < ks.length by omega)
   have hrx := flat_row encIn hr1 hg
   by_cases h0 : Dee.keyOf ks d.person = 0
   ·have hr : fineD ks d = false := by unfold fineD; rw [h0]; simp
    rw [h0] at hrx
    refine RetsX.of (nt := 34) Tryz.func49 (by kernel_rfl) rfl rfl (by simp) (by simp only [argEnv]; rfl) ?_
    have X := ExtB.refl (fun _ => False) w
    repeat' (first | refine ZzQ ?_ | refine ZzR ?_)
    refine RunL.box rfl rfl rfl fun B3 w3_ a_ => ?_
    have Z3 : Blk w3_ B3 (dCells d u v) 38 := a_.at_
    have gB3 := a_.ge X
    replace X := X.trans a_.ext
    clear a_
    repeat' (first | with_reducible refine ZzG rfl ?_ | refine RunL.ev Tryz.tOk rfl rfl rfl ?_ | refine ZzQ ?_ | refine ZzN ?_)
    refine RunE.draw (fun _ => False) mix ?_
    intro wd_ Xd_
    repeat' (first | with_reducible refine AsyN.boolT rfl ?_ | with_reducible refine AsyN.boolF rfl ?_ | (with_reducible refine AsyN.decT ?_ ?_; focus omega) | (with_reducible refine AsyN.chk ?_; refine AsyN.int (by (rfl)) ?_) | refine AsyN.any ?_ | refine Asy.ev Tryz.tOk rfl rfl rfl ?_ | refine Asy.unwantedD rfl rfl rfl ?_ | refine Asy.evV rfl rfl rfl rfl (fun _ X_ => OpV.loadN Tryz.tOk rfl rfl rfl rfl (Blk.row (Z3.up (Xd_.trans X_)))) ?_ | refine Asy.evV rfl rfl rfl rfl (fun _ X_ => OpV.load1 Tryz.tOk rfl rfl rfl (Blk.cell (Z3.up (Xd_.trans X_)) rfl)) ?_ | refine Asy.evV rfl rfl rfl rfl (fun _ X_ => OpV.indexS Tryz.tOk (d.person.toNat) rfl rfl rfl (by first | rfl | omega) (by omega)) ?_ | refine Asy.evV rfl rfl rfl rfl (fun _ X_ => OpV.load1 Tryz.tOk rfl rfl rfl ((hrx.up (X.trans (Xd_.trans X_))) 0 _ rfl)) ?_ | refine Asy.callN rfl rfl rfl (fun _ X_ => (c1 _ (hs.up (X.trans (Xd_.trans X_))) (hb.up (X.trans (Xd_.trans X_))))) ?_)
    refine Asy.end_ (by kernel_rfl) ?_
    intro we_ Xe_
    replace X := X.trans (Xd_.trans Xe_)
    clear Xd_ Xe_
    repeat' (first | refine ZzN ?_)
    exact RunE.retFn Tryz.func49 (.tmp rfl .nil) ⟨by rw [hr]; rfl, X⟩
   ·have hkb := hki _ (List.mem_of_getElem? hg)
    have hr : fineD ks d = verS (Dee.keyOf ks d.person) (textD d) d.e d.s := by
     unfold fineD
     rw [hf, decide_eq_true hlt]
     have : (Dee.keyOf ks d.person != 0) = true := by simpa using h0
     rw [this]; simp
    have c2 := fun w h1 h2 => rText_ok d u v w h1 h2 hf
    have c3 := fun r w h => r11_verify_ok (Dee.keyOf ks d.person) d.e d.s r (textD d) w hkb hd.e hd.s h (Nat.le_trans (text_len hf) (by decide))
    generalize verS (Dee.keyOf ks d.person) (textD d) d.e d.s = m at *
    generalize Dee.keyOf ks d.person = key at *
    refine RetsX.of (nt := 34) Tryz.func49 (by kernel_rfl) rfl rfl (by simp) (by simp only [argEnv]; rfl) ?_
    have X := ExtB.refl (fun _ => False) w
    repeat' (first | refine ZzQ ?_ | refine ZzR ?_)
    refine RunL.box rfl rfl rfl fun B3 w3_ a_ => ?_
    have Z3 : Blk w3_ B3 (dCells d u v) 38 := a_.at_
    have gB3 := a_.ge X
    replace X := X.trans a_.ext
    clear a_
    repeat' (first | with_reducible refine ZzG rfl ?_ | refine RunL.ev Tryz.tOk rfl rfl rfl ?_ | refine ZzQ ?_ | refine ZzN ?_)
    refine RunE.draw (fun _ => False) mix ?_
    intro wd_ Xd_
    repeat' (first | with_reducible refine AsyN.boolT rfl ?_ | (with_reducible refine AsyN.decT ?_ ?_; focus omega) | (with_reducible refine AsyN.neT ?_ ?_; focus omega) | (with_reducible refine AsyN.chk ?_; refine AsyN.int (by (rfl)) ?_) | refine AsyN.any ?_ | refine Asy.ev Tryz.tOk rfl rfl rfl ?_ | refine Asy.evV rfl rfl rfl rfl (fun _ X_ => OpV.loadN Tryz.tOk rfl rfl rfl rfl (Blk.row (Z3.up (Xd_.trans X_)))) ?_ | refine Asy.evV rfl rfl rfl rfl (fun _ X_ => OpV.load1 Tryz.tOk rfl rfl rfl (Blk.cell (Z3.up (Xd_.trans X_)) rfl)) ?_ | refine Asy.evV rfl rfl rfl rfl (fun _ X_ => OpV.indexS Tryz.tOk (d.person.toNat) rfl rfl rfl (by first | rfl | omega) (by omega)) ?_ | refine Asy.evV rfl rfl rfl rfl (fun _ X_ => OpV.load1 Tryz.tOk rfl rfl rfl ((hrx.up (X.trans (Xd_.trans X_))) 0 _ rfl)) ?_ | refine Asy.callN rfl rfl rfl (fun _ X_ => (c1 _ (hs.up (X.trans (Xd_.trans X_))) (hb.up (X.trans (Xd_.trans X_))))) ?_)
    refine Asy.sat0 (fun q w' => LBy w' q (textD d)) rfl rfl rfl rfl (fun q w' w'' _ e h => h.up e) (fun w' e => ?_) ?_
    ·refine OpE.mono (OpE.call rfl (c2 _ (hs.up (X.trans (Xd_.trans e))) (hb.up (X.trans (Xd_.trans e))))) ?_ fun _ _ h => h
     rintro r w'' ⟨h1, h2⟩
     exact ⟨h2, isSl_own h1⟩
    repeat' (first | refine AsyN.any ?_ | refine Asy.ev Tryz.tOk rfl rfl rfl ?_ | refine Asy.evV rfl rfl rfl rfl (fun _ X_ => OpV.loadN Tryz.tOk rfl rfl rfl rfl ((row_sig (Blk.row Z3)).up (Xd_.trans X_))) ?_)
    refine Asy.val1 0 (v := .bool m) rfl rfl rfl rfl rfl rfl (fun w' q e hx => OpE.call rfl (c3 q w' hx)) ?_
    repeat' (first | refine AsyN.any ?_ | refine Asy.ev Tryz.tOk rfl rfl rfl ?_)
    refine Asy.tail (by kernel_rfl) ?_
    intro we_ Xe_
    simp only [satsAll]
    rintro _ -
    replace X := X.trans (Xd_.trans Xe_)
    clear Xd_ Xe_
    repeat' (first | refine ZzN ?_)
    exact RunE.retFn Tryz.func49 (.tmp rfl .nil) ⟨by rw [hr]; rfl, X⟩
  ·have hr : fineD ks d = false := by unfold fineD; rw [decide_eq_false hlt]; simp
   refine RetsX.of (nt := 34) Tryz.func49 (by kernel_rfl) rfl rfl (by simp) (by simp only [argEnv]; rfl) ?_
   have X := ExtB.refl (fun _ => False) w
   repeat' (first | refine ZzQ ?_ | refine ZzR ?_)
   refine RunL.box rfl rfl rfl fun B3 w3_ a_ => ?_
   have Z3 : Blk w3_ B3 (dCells d u v) 38 := a_.at_
   have gB3 := a_.ge X
   replace X := X.trans a_.ext
   clear a_
   repeat' (first | with_reducible refine ZzG rfl ?_ | refine RunL.ev Tryz.tOk rfl rfl rfl ?_ | refine ZzQ ?_ | refine ZzN ?_)
   refine RunE.draw (fun _ => False) mix ?_
   intro wd_ Xd_
   repeat' (first | with_reducible refine AsyN.boolT rfl ?_ | with_reducible refine AsyN.boolF rfl ?_ | (with_reducible refine AsyN.decF ?_ ?_; focus omega) | (with_reducible refine AsyN.chk ?_; refine AsyN.int (by (rfl)) ?_) | refine AsyN.any ?_ | refine Asy.ev Tryz.tOk rfl rfl rfl ?_ | refine Asy.unwantedD rfl rfl rfl ?_ | refine Asy.evV rfl rfl rfl rfl (fun _ X_ => OpV.loadN Tryz.tOk rfl rfl rfl rfl (Blk.row (Z3.up (Xd_.trans X_)))) ?_ | refine Asy.evV rfl rfl rfl rfl (fun _ X_ => OpV.load1 Tryz.tOk rfl rfl rfl (Blk.cell (Z3.up (Xd_.trans X_)) rfl)) ?_ | refine Asy.evV rfl rfl rfl rfl (fun _ X_ => OpV.lenSl Tryz.tOk rfl rfl hk) ?_ | refine Asy.callN rfl rfl rfl (fun _ X_ => (c1 _ (hs.up (X.trans (Xd_.trans X_))) (hb.up (X.trans (Xd_.trans X_))))) ?_)
   refine Asy.end_ (by kernel_rfl) ?_
   intro we_ Xe_
   replace X := X.trans (Xd_.trans Xe_)
   clear Xd_ Xe_
   repeat' (first | refine ZzN ?_)
   exact RunE.retFn Tryz.func49 (.tmp rfl .nil) ⟨by rw [hr]; rfl, X⟩
set_option maxHeartbeats 4000000 in
theorem rSame_ok (a b : List Dr) (u v : Value) (w : World) (ha : LDr w u a) (hb : LDr w v b) (hl : a.length < 9223372036854775808) (hl' : b.length < 9223372036854775808) (hda : ∀ x ∈ a, WfX w x) (hdb : ∀ x ∈ b, WfX w x) :
  Rets Tryz.prog 14 [u, v] w fun r w' => r = .bool (sameL (a.map Dr.d) (b.map Dr.d)) ∧ Ext w w' := by
 by_cases hlen : a.length = b.length
 ·refine RetsX.of (nt := 27) Tryz.func14 (by kernel_rfl) rfl rfl (by simp) (by simp only [argEnv]; rfl) ?_
  have X := ExtB.refl (fun _ => False) w
  repeat' (first | with_reducible refine ZzG rfl ?_ | (with_reducible refine RunLN.neF ?_ ?_; focus omega) | (with_reducible refine RunLN.chk ?_; refine RunLN.int (by (rfl)) ?_) | refine ZzA ?_ | refine RunL.ev Tryz.tOk rfl rfl rfl ?_ | refine RunL.evV rfl rfl rfl (OpV.lenSl Tryz.tOk rfl rfl ha) ?_ | refine RunL.evV rfl rfl rfl (OpV.lenSl Tryz.tOk rfl rfl hb) ?_ | refine ZzF rfl rfl ?_ | refine ZzQ ?_ | refine ZzR ?_ | refine ZzN ?_ | refine ZzB ?_ | refine ZzK ?_)
  refine RunE.loop (ι := Nat) (fun s => [(0, u), (1, v), (4, .bool false), (5, .int .i64 (s : Int))])
   (fun s w' => s ≤ a.length ∧ sameL (a.map Dr.d) (b.map Dr.d) = sameL ((a.drop s).map Dr.d) ((b.drop s).map Dr.d) ∧ Ext w w') (fun s => a.length - s) 0 (by repeat (first | exact Sub.nil _ | refine Sub.cons rfl ?_)) ⟨Nat.zero_le _, rfl, X⟩ ?_
  clear X
  rintro i w3 ⟨hi, heq, X⟩ again
  by_cases hlt : i < a.length
  ·obtain ⟨x, hx⟩ : ∃ x, a[i]? = some x := ⟨_, List.getElem?_eq_getElem hlt⟩
   obtain ⟨y, hy⟩ : ∃ y, b[i]? = some y := ⟨_, List.getElem?_eq_getElem (by omega)⟩
   rw [map_drop_cons Dr.d hx, map_drop_cons Dr.d hy, sameL] at heq
   obtain ⟨b1, o1, c1, rfl, hr1, -⟩ := isL_held ha hlt
   obtain ⟨b2, o2, c2, rfl, hr2, -⟩ := isL_held hb (show i < b.length by omega)
   have hrx := flat_row encR (hr1.up X) hx
   have hry := flat_row encR (hr2.up X) hy
   have hwx := (hda x (List.mem_of_getElem? hx)).up X
   have hwy := (hdb y (List.mem_of_getElem? hy)).up X
   have cS := fun w' (e : Ext w3 w') => rsameD_ok x.d y.d x.u x.v y.u y.v w' (hwx.2.2.2.up e).seen (hwx.2.2.2.up e).data (hwy.2.2.2.up e).seen (hwy.2.2.2.up e).data hwx.2.1 hwy.2.1
   replace X := X
   have Xb := X
   replace X := ExtB.refl (fun _ => False) w3
   repeat' (first | (with_reducible refine RunLN.decT ?_ ?_; focus omega) | (with_reducible refine RunLN.chk ?_; refine RunLN.int (by (rfl)) ?_) | refine ZzA ?_ | refine RunL.ev Tryz.tOk rfl rfl rfl ?_ | refine ZzT rfl rfl ?_ | refine ZzQ ?_ | refine ZzR ?_ | refine ZzN ?_ | refine ZzB ?_ | refine ZzK ?_)
   refine RunE.draw (fun _ => False) mix ?_
   intro wd_ Xd_
   cases hxy : sameD x.d y.d with
   | true =>
    rw [hxy] at cS
    rw [hxy, Bool.true_and] at heq
    repeat' (first | with_reducible refine AsyN.boolT rfl ?_ | with_reducible refine AsyN.boolF rfl ?_ | (with_reducible refine AsyN.chk ?_; refine AsyN.int (by (rfl)) ?_) | refine AsyN.any ?_ | refine Asy.ev Tryz.tOk rfl rfl rfl ?_ | refine Asy.evV rfl rfl rfl rfl (fun _ X_ => OpV.indexS Tryz.tOk i rfl rfl rfl (by first | rfl | omega) (by omega)) ?_ | refine Asy.evV rfl rfl rfl rfl (fun _ X_ => OpV.loadN Tryz.tOk rfl rfl rfl rfl (hrx.up (Xd_.trans X_))) ?_ | refine Asy.evV rfl rfl rfl rfl (fun _ X_ => OpV.loadN Tryz.tOk rfl rfl rfl rfl (hry.up (Xd_.trans X_))) ?_ | refine Asy.callN rfl rfl rfl (fun _ X_ => (cS _ (Xd_.trans X_))) ?_)
    refine Asy.end_ (by kernel_rfl) ?_
    intro we_ Xe_
    replace X := Xb.trans (Xd_.trans Xe_)
    clear Xd_ Xe_ Xb
    repeat' (first | (with_reducible refine RunLN.chk ?_; refine RunLN.int (by (first | (refine wr_i64 ?_ ?_; omega; omega) | rfl)) ?_) | refine RunL.ev Tryz.tOk rfl rfl rfl ?_ | refine ZzF rfl rfl ?_ | refine ZzR ?_ | refine ZzN ?_ | refine ZzI ?_ | refine ZzK ?_)
    exact RunE.weaken (by repeat (first | exact Sub.nil _ | refine Sub.cons rfl ?_)) (again (i + 1) _ (by omega) ⟨by omega, heq, X⟩)
   | false =>
    rw [hxy] at cS
    rw [hxy, Bool.false_and] at heq
    repeat' (first | with_reducible refine AsyN.boolT rfl ?_ | with_reducible refine AsyN.boolF rfl ?_ | (with_reducible refine AsyN.chk ?_; refine AsyN.int (by (rfl)) ?_) | refine AsyN.any ?_ | refine Asy.ev Tryz.tOk rfl rfl rfl ?_ | refine Asy.evV rfl rfl rfl rfl (fun _ X_ => OpV.indexS Tryz.tOk i rfl rfl rfl (by first | rfl | omega) (by omega)) ?_ | refine Asy.evV rfl rfl rfl rfl (fun _ X_ => OpV.loadN Tryz.tOk rfl rfl rfl rfl (hrx.up (Xd_.trans X_))) ?_ | refine Asy.evV rfl rfl rfl rfl (fun _ X_ => OpV.loadN Tryz.tOk rfl rfl rfl rfl (hry.up (Xd_.trans X_))) ?_ | refine Asy.callN rfl rfl rfl (fun _ X_ => (cS _ (Xd_.trans X_))) ?_)
    refine Asy.end_ (by kernel_rfl) ?_
    intro we_ Xe_
    replace X := Xb.trans (Xd_.trans Xe_)
    clear Xd_ Xe_ Xb
    repeat' (first | with_reducible refine ZzG rfl ?_ | refine RunL.ev Tryz.tOk rfl rfl rfl ?_ | refine ZzT rfl rfl ?_ | refine ZzQ ?_ | refine ZzR ?_ | refine ZzN ?_)
    exact RunE.retFn Tryz.func14 (.tmp rfl .nil) ⟨by rw [heq]; rfl, X⟩
  ·obtain rfl : i = a.length := by omega
   rw [List.drop_length, List.drop_eq_nil_of_le (by omega)] at heq
   clear again
   repeat' (first | with_reducible refine ZzP rfl ?_ | (with_reducible refine RunLN.decF ?_ ?_; focus omega) | (with_reducible refine RunLN.chk ?_; refine RunLN.int (by (rfl)) ?_) | refine ZzA ?_ | refine RunL.ev Tryz.tOk rfl rfl rfl ?_ | refine RunL.evV rfl rfl rfl (OpV.lenSl Tryz.tOk rfl rfl ha) ?_ | refine ZzF rfl rfl ?_ | refine ZzQ ?_ | refine ZzR ?_ | refine ZzN ?_ | refine RunE.exit rfl ?_)
   exact RunE.retFn Tryz.func14 (.tmp rfl .nil) ⟨by rw [heq]; rfl, X⟩
 ·have heq : sameL (a.map Dr.d) (b.map Dr.d) = false := sameL_len (by rw [List.length_map, List.length_map]; exact hlen)
  have hlen' : (a.length : Int) ≠ (b.length : Int) := by omega
  refine RetsX.of (nt := 27) Tryz.func14 (by kernel_rfl) rfl rfl (by simp) (by simp only [argEnv]; rfl) ?_
  have X := ExtB.refl (fun _ => False) w
  repeat' (first | with_reducible refine ZzG rfl ?_ | (with_reducible refine RunLN.neT ?_ ?_; focus omega) | (with_reducible refine RunLN.chk ?_; refine RunLN.int (by (rfl)) ?_) | refine ZzA ?_ | refine RunL.ev Tryz.tOk rfl rfl rfl ?_ | refine RunL.evV rfl rfl rfl (OpV.lenSl Tryz.tOk rfl rfl ha) ?_ | refine RunL.evV rfl rfl rfl (OpV.lenSl Tryz.tOk rfl rfl hb) ?_ | refine ZzT rfl rfl ?_ | refine ZzQ ?_ | refine ZzR ?_ | refine ZzN ?_)
  exact RunE.retFn Tryz.func14 (.tmp rfl .nil) ⟨by rw [heq]; rfl, X⟩
set_option maxHeartbeats 2000000 in
theorem rthere_ok (l : List Dr) (v : Value) (d : Dr) (w : World) (hv : LDr w v l) (hl : l.length < 9223372036854775808) (hw : ∀ x ∈ l, WfX w x) (hd : WfX w d) :
  Rets Tryz.prog 69 [v, .agg d.cells.toArray] w fun r w' => r = .bool (thereL Dr.d l d.d) ∧ Ext w w' := by
 unfold thereL
 refine RetsX.of (nt := 18) Tryz.func69 (by kernel_rfl) rfl rfl (by simp) (by simp only [argEnv]; rfl) ?_
 have X := ExtB.refl (fun _ => False) w
 repeat' (first | refine ZzQ ?_ | refine ZzR ?_)
 refine RunL.box rfl rfl rfl fun B3 w3_ a_ => ?_
 have Z3 : Blk w3_ B3 (d.cells) 38 := a_.at_
 have gB3 := a_.ge X
 replace X := X.trans a_.ext
 clear a_
 repeat' (first | with_reducible refine ZzG rfl ?_ | (with_reducible refine RunLN.chk ?_; refine RunLN.int (by (rfl)) ?_) | refine RunL.ev Tryz.tOk rfl rfl rfl ?_ | refine ZzQ ?_ | refine ZzR ?_ | refine ZzN ?_ | refine ZzB ?_)
 refine RunE.loop (ι := Nat) (fun s => [(0, v), (3, .pointer (some ⟨B3, 0, none⟩)), (5, .int .i64 (s : Int))])
  (fun s w' => s ≤ l.length ∧ (l.any fun y => sameF y.d d.d) = ((l.drop s).any fun y => sameF y.d d.d) ∧ Ext w w' ∧ Blk w' B3 d.cells 38) (fun s => l.length - s) 0 (by repeat (first | exact Sub.nil _ | refine Sub.cons rfl ?_)) ⟨Nat.zero_le _, rfl, X, Z3⟩ ?_
 clear X Z3
 rintro i w3 ⟨hi, heq, Xb, Z3⟩ again
 by_cases hlt : i < l.length
 ·obtain ⟨x, hx⟩ : ∃ x, l[i]? = some x := ⟨_, List.getElem?_eq_getElem hlt⟩
  have hdr : l.drop i = x :: l.drop (i + 1) := by
   obtain ⟨hi, e⟩ := List.getElem?_eq_some_iff.1 hx
   rw [List.drop_eq_getElem_cons hi, e]
  rw [hdr, List.any_cons] at heq
  obtain ⟨b1, o1, c1, rfl, hr1, -⟩ := isL_held hv hlt
  have hrx := flat_row encR (hr1.up Xb) hx
  have hwx := (hw x (List.mem_of_getElem? hx)).up Xb
  have hwd := hd.up Xb
  have cS := fun w' (e : Ext w3 w') => rsameF_ok x.d d.d x.u x.v d.u d.v w' (hwx.2.2.2.up e).seen (hwx.2.2.2.up e).data (hwd.2.2.2.up e).seen (hwd.2.2.2.up e).data hwx.2.1 hwd.2.1
  have X := ExtB.refl (fun _ => False) w3
  repeat' (first | (with_reducible refine RunLN.decT ?_ ?_; focus omega) | (with_reducible refine RunLN.chk ?_; refine RunLN.int (by (rfl)) ?_) | refine ZzA ?_ | refine RunL.ev Tryz.tOk rfl rfl rfl ?_ | refine ZzT rfl rfl ?_ | refine ZzQ ?_ | refine ZzR ?_ | refine ZzN ?_ | refine ZzB ?_ | refine ZzK ?_)
  refine RunE.draw (fun _ => False) mix ?_
  intro wd_ Xd_
  cases hxy : sameF x.d d.d with
  | true =>
   rw [hxy] at cS
   rw [hxy, Bool.true_or] at heq
   repeat' (first | with_reducible refine AsyN.boolT rfl ?_ | (with_reducible refine AsyN.chk ?_; refine AsyN.int (by (rfl)) ?_) | refine AsyN.any ?_ | refine Asy.ev Tryz.tOk rfl rfl rfl ?_ | refine Asy.evV rfl rfl rfl rfl (fun _ X_ => OpV.indexS Tryz.tOk i rfl rfl rfl (by first | rfl | omega) (by omega)) ?_ | refine Asy.evV rfl rfl rfl rfl (fun _ X_ => OpV.loadN Tryz.tOk rfl rfl rfl rfl (hrx.up (Xd_.trans X_))) ?_ | refine Asy.evV rfl rfl rfl rfl (fun _ X_ => OpV.loadN Tryz.tOk rfl rfl rfl rfl (Blk.row (Z3.up (Xd_.trans X_)))) ?_ | refine Asy.callN rfl rfl rfl (fun _ X_ => (cS _ (Xd_.trans X_))) ?_)
   refine Asy.end_ (by kernel_rfl) ?_
   intro we_ Xe_
   replace X := Xb.trans (Xd_.trans Xe_)
   clear Xd_ Xe_ Xb
   repeat' (first | with_reducible refine ZzP rfl ?_ | refine RunL.ev Tryz.tOk rfl rfl rfl ?_ | refine ZzT rfl rfl ?_ | refine ZzQ ?_ | refine ZzR ?_ | refine ZzN ?_)
   exact RunE.retFn Tryz.func69 (.tmp rfl .nil) ⟨by rw [heq]; rfl, X⟩
  | false =>
   rw [hxy] at cS
   rw [hxy, Bool.false_or] at heq
   repeat' (first | with_reducible refine AsyN.boolF rfl ?_ | (with_reducible refine AsyN.chk ?_; refine AsyN.int (by (rfl)) ?_) | refine AsyN.any ?_ | refine Asy.ev Tryz.tOk rfl rfl rfl ?_ | refine Asy.evV rfl rfl rfl rfl (fun _ X_ => OpV.indexS Tryz.tOk i rfl rfl rfl (by first | rfl | omega) (by omega)) ?_ | refine Asy.evV rfl rfl rfl rfl (fun _ X_ => OpV.loadN Tryz.tOk rfl rfl rfl rfl (hrx.up (Xd_.trans X_))) ?_ | refine Asy.evV rfl rfl rfl rfl (fun _ X_ => OpV.loadN Tryz.tOk rfl rfl rfl rfl (Blk.row (Z3.up (Xd_.trans X_)))) ?_ | refine Asy.callN rfl rfl rfl (fun _ X_ => (cS _ (Xd_.trans X_))) ?_)
   refine Asy.end_ (by kernel_rfl) ?_
   intro we_ Xe_
   replace X := Xd_.trans Xe_
   clear Xd_ Xe_
   repeat' (first | (with_reducible refine RunLN.chk ?_; refine RunLN.int (by (first | (refine wr_i64 ?_ ?_; omega; omega) | rfl)) ?_) | refine RunL.ev Tryz.tOk rfl rfl rfl ?_ | refine ZzF rfl rfl ?_ | refine ZzR ?_ | refine ZzN ?_ | refine ZzI ?_ | refine ZzK ?_)
   exact RunE.weaken (by repeat (first | exact Sub.nil _ | refine Sub.cons rfl ?_)) (again (i + 1) _ (by omega) ⟨by omega, heq, Xb.trans X, Z3.up X⟩)
 ·obtain rfl : i = l.length := by omega
  rw [List.drop_length, List.any_nil] at heq
  clear again
  have X := Xb
  repeat' (first | with_reducible refine ZzG rfl ?_ | (with_reducible refine RunLN.decF ?_ ?_; focus omega) | (with_reducible refine RunLN.chk ?_; refine RunLN.int (by (rfl)) ?_) | refine ZzA ?_ | refine RunL.ev Tryz.tOk rfl rfl rfl ?_ | refine RunL.evV rfl rfl rfl (OpV.lenSl Tryz.tOk rfl rfl hv) ?_ | refine ZzF rfl rfl ?_ | refine ZzQ ?_ | refine ZzR ?_ | refine ZzN ?_ | refine RunE.exit rfl ?_)
  exact RunE.retFn Tryz.func69 (.tmp rfl .nil) ⟨by rw [heq]; rfl, X⟩
end Go.Sg
end
section
/- Merge: the reference: Error, Left. -/
set_option maxRecDepth 4000
namespace Go.Sg
open Go.Rn Go.Proofs Go.Dee Go.Mer Go.Rec Go.RowKit Go.Sha Go.Cod Go.NT
attribute [local irreducible] leftL keysD fineD thereL Go.Rn.RetsX Go.Rn.RunLN Go.Rn.AsyN Go.Rn.RunL Go.Rn.RunE Go.Rn.Asy Go.Rn.OpV Go.Rn.OpE Go.Rn.ExecE
set_option maxHeartbeats 4000000 in
theorem rError_ok (ks : List Int) (kv : Value) (ls : List Ll) (lv : Value) (w : World) (hk : LIn w kv ks) (hkl : ks.length < 9223372036854775808) (hv : LLl w lv ls) (hl : ls.length < 9223372036854775808) (hn : lenD ls < 9223372036854775808) :
  Rets Tryz.prog 40 [kv, lv] w fun r w' => r = .int .i64 (chkM ks ls) ∧ Ext w w' := by
 have c1 := fun w h => rkeys_ok ks kv w h hkl
 refine RetsX.of (nt := 28) Tryz.func40 (by kernel_rfl) rfl rfl (by simp) (by simp only [argEnv]; rfl) ?_
 have X := ExtB.refl (fun _ => False) w
 repeat' (first | (with_reducible refine RunLN.chk ?_; refine RunLN.int (by (rfl)) ?_) | refine ZzA ?_ | refine RunL.ev Tryz.tOk rfl rfl rfl ?_ | refine ZzQ ?_ | refine ZzR ?_ | refine ZzN ?_)
 refine RunL.call rfl rfl rfl (c1 _ (hk.up X)) ?_
 rintro _ _ ⟨rfl, Xa_⟩
 replace X := X.trans Xa_
 clear Xa_
 clear c1
 cases hkd : keysD ks with
 | false =>
  have hr : chkM ks ls = 1 := by unfold chkM; rw [hkd]; rfl
  repeat' (first | with_reducible refine ZzP rfl ?_ | (with_reducible refine RunLN.chk ?_; refine RunLN.int (by (rfl)) ?_) | refine RunL.ev Tryz.tOk rfl rfl rfl ?_ | refine ZzT rfl rfl ?_ | refine ZzQ ?_ | refine ZzR ?_ | refine ZzN ?_)
  exact RunE.retFn Tryz.func40 (.tmp rfl .nil) ⟨by rw [hr]; rfl, X⟩
 | true =>
  have hr : chkM ks ls = if 64 < ls.length ∨ 4096 < lenD ls then 2 else 0 := by unfold chkM; rw [hkd]; rfl
  rw [hr]
  clear hr hkd
  by_cases h1 : 64 < ls.length
  ·rw [if_pos (.inl h1)]
   repeat' (first | with_reducible refine ZzG rfl ?_ | (with_reducible refine RunLN.decT ?_ ?_; focus omega) | (with_reducible refine RunLN.chk ?_; refine RunLN.int (by (rfl)) ?_) | refine ZzA ?_ | refine RunL.ev Tryz.tOk rfl rfl rfl ?_ | refine RunL.evV rfl rfl rfl (OpV.lenSl Tryz.tOk rfl rfl hv) ?_ | refine ZzT rfl rfl ?_ | refine ZzF rfl rfl ?_ | refine ZzQ ?_ | refine ZzR ?_ | refine ZzN ?_ | refine ZzK ?_)
   exact RunE.retFn Tryz.func40 (.tmp rfl .nil) ⟨rfl, X⟩
  repeat' (first | with_reducible refine ZzG rfl ?_ | (with_reducible refine RunLN.decF ?_ ?_; focus omega) | (with_reducible refine RunLN.chk ?_; refine RunLN.int (by (rfl)) ?_) | refine ZzA ?_ | refine RunL.ev Tryz.tOk rfl rfl rfl ?_ | refine RunL.evV rfl rfl rfl (OpV.lenSl Tryz.tOk rfl rfl hv) ?_ | refine ZzF rfl rfl ?_ | refine ZzQ ?_ | refine ZzR ?_ | refine ZzN ?_ | refine ZzB ?_ | refine ZzK ?_)
  refine RunE.loop (ι := Nat) (fun s => [(1, lv), (5, .int .i64 (lenD (ls.take s) : Int)), (6, .int .i64 (s : Int))])
   (fun s w' => s ≤ ls.length ∧ Ext w w') (fun s => ls.length - s) 0 (by repeat (first | exact Sub.nil _ | refine Sub.cons rfl ?_)) ⟨Nat.zero_le _, X⟩ ?_
  clear X
  rintro i w3 ⟨hi, X⟩ again
  by_cases hlt : i < ls.length
  ·obtain ⟨b1, o1, cc, rfl, hr1, -⟩ := isL_held hv hlt
   obtain ⟨x, hx⟩ : ∃ x, ls[i]? = some x := ⟨_, List.getElem?_eq_getElem hlt⟩
   have hrx := flat_row encLl hr1 hx
   have e2 := lenD_take hx
   have e3 := lenD_le ls (i + 1)
   have next := fun w' a => again (i + 1) w' (by omega) ⟨by omega, a⟩
   rw [e2, Int.natCast_add] at next
   clear again
   generalize lenD (ls.take i) = m at *
   repeat' (first | (with_reducible refine RunLN.decT ?_ ?_; focus omega) | (with_reducible refine RunLN.chk ?_; refine RunLN.int (by (first | (refine wr_i64 ?_ ?_; omega; omega) | rfl)) ?_) | refine ZzA ?_ | refine RunL.ev Tryz.tOk rfl rfl rfl ?_ | refine RunL.evV rfl rfl rfl (OpV.load1 Tryz.tOk rfl rfl rfl ((hrx.up X) 0 _ rfl)) ?_ | refine RunL.evV rfl rfl rfl (OpV.indexS Tryz.tOk _ rfl rfl rfl rfl (by omega)) ?_ | refine ZzT rfl rfl ?_ | refine ZzQ ?_ | refine ZzR ?_ | refine ZzN ?_ | refine ZzB ?_ | refine ZzI ?_ | refine ZzK ?_)
   exact RunE.weaken (by repeat (first | exact Sub.nil _ | refine Sub.cons rfl ?_)) (next _ X)
  obtain rfl : i = ls.length := by omega
  rw [List.take_length]
  clear again
  by_cases h2 : 4096 < lenD ls
  ·rw [if_pos (.inr h2)]
   repeat' (first | (with_reducible refine RunLN.decT ?_ ?_; focus omega) | (with_reducible refine RunLN.decF ?_ ?_; focus omega) | (with_reducible refine RunLN.chk ?_; refine RunLN.int (by (rfl)) ?_) | refine ZzA ?_ | refine RunL.ev Tryz.tOk rfl rfl rfl ?_ | refine RunL.evV rfl rfl rfl (OpV.lenSl Tryz.tOk rfl rfl hv) ?_ | refine ZzT rfl rfl ?_ | refine ZzF rfl rfl ?_ | refine ZzQ ?_ | refine ZzR ?_ | refine ZzN ?_ | refine RunE.exit rfl ?_)
   exact RunE.retFn Tryz.func40 (.tmp rfl .nil) ⟨rfl, X⟩
  ·rw [if_neg (by omega)]
   repeat' (first | (with_reducible refine RunLN.decF ?_ ?_; focus omega) | (with_reducible refine RunLN.chk ?_; refine RunLN.int (by (rfl)) ?_) | refine ZzA ?_ | refine RunL.ev Tryz.tOk rfl rfl rfl ?_ | refine RunL.evV rfl rfl rfl (OpV.lenSl Tryz.tOk rfl rfl hv) ?_ | refine ZzF rfl rfl ?_ | refine ZzQ ?_ | refine ZzR ?_ | refine ZzN ?_ | refine ZzK ?_ | refine RunE.exit rfl ?_)
   exact RunE.retFn Tryz.func40 (.tmp rfl .nil) ⟨rfl, X⟩
set_option maxRecDepth 8000 in
set_option maxHeartbeats 8000000 in
theorem rLeft_ok (ks : List Int) (kv : Value) (ls : List Ll) (lv : Value) (w : World) (hk : LIn w kv ks) (hkl : ks.length < 9223372036854775808) (hki : KsI ks) (hv : LLl w lv ls) (hl : ls.length < 9223372036854775808)
  (hp : ∀ x ∈ ls, LDr w x.v x.l) (hd : ∀ x ∈ allD ls, WfX w x) (hn : lenD ls ≤ 4096) :
  Rets Tryz.prog 43 [kv, lv] w fun r w' => w'.ownsRow w.heap.size 38 39 r (leftL Dr.d ks (allD ls)).length (flat Dr.cells (leftL Dr.d ks (allD ls))) ∧ Ext w w' := by
 have cF : ∀ (d : Dr) (w' : World), WfX w d → Ext w w' → Rets Tryz.prog 49 [kv, .agg d.cells.toArray] w' fun r w'' => r = .bool (fineD ks d.d) ∧ Ext w' w'' := fun d w' hw X =>
  rfine_ok ks kv d.d d.u d.v w' (hk.up X) hkl hki hw.1 (hw.2.2.2.seen.up X) (hw.2.2.2.up X).data hw.2.1 hw.2.2.1
 clear hk hkl hki
 refine RetsX.of (nt := 56) Tryz.func43 (by kernel_rfl) rfl rfl (by simp) (by simp only [argEnv]; rfl) ?_
 have X := ExtB.refl (fun _ => False) w
 repeat' (first | refine ZzA ?_ | refine RunL.ev Tryz.tOk rfl rfl rfl ?_ | refine ZzQ ?_ | refine ZzR ?_ | refine ZzN ?_)
 refine RunL.ex rfl rfl rfl (OpE.build00 Tryz.tOk 26 38 rfl rfl rfl) ?_
 rintro _ w1 ⟨⟨B0, rfl⟩, hO, Xa_⟩
 replace X := X.trans Xa_
 clear Xa_
 repeat' (first | (with_reducible refine RunLN.chk ?_; refine RunLN.int (by (rfl)) ?_) | refine ZzA ?_ | refine RunL.ev Tryz.tOk rfl rfl rfl ?_ | refine ZzQ ?_ | refine ZzR ?_ | refine ZzN ?_ | refine ZzB ?_)
 refine RunE.loop (ι := Nat × Value) (fun s => [(0, kv), (1, lv), (5, s.2), (6, .int .i64 (s.1 : Int))])
  (fun s w' => s.1 ≤ ls.length ∧ Ext w w' ∧ w'.ownsRow w.heap.size 38 39 s.2 (leftL Dr.d ks (allD (ls.take s.1))).length (flat Dr.cells (leftL Dr.d ks (allD (ls.take s.1))))) (fun s => ls.length - s.1) (0, _) (by repeat (first | exact Sub.nil _ | refine Sub.cons rfl ?_)) ⟨Nat.zero_le _, X, by rw [List.take_zero]; unfold leftL; exact hO⟩ ?_
 clear X hO
 rintro ⟨i, u⟩ w3 ⟨hi, X, hO⟩ again
 simp only at hi hO again ⊢
 by_cases hlt : i < ls.length
 ·obtain ⟨b1, o1, cc, rfl, hr1, -⟩ := isL_held hv hlt
  obtain ⟨x, hx⟩ : ∃ x, ls[i]? = some x := ⟨_, List.getElem?_eq_getElem hlt⟩
  have hrx := flat_row encLl hr1 hx
  have hxm := List.mem_of_getElem? hx
  have hxl := hp x hxm
  have hxa : ∀ y ∈ x.l, y ∈ allD ls := fun y hy => List.mem_flatMap.2 ⟨x, hxm, hy⟩
  have hall : allD (ls.take (i + 1)) = allD (ls.take i) ++ x.l := by unfold allD; rw [List.take_add_one, hx, List.flatMap_append]; simp
  have hlen : (allD (ls.take (i + 1))).length ≤ 4096 := by rw [allD_len]; exact Nat.le_trans (lenD_le ls _) hn
  have hsub : ∀ y ∈ allD (ls.take i), y ∈ allD ls := fun y hy => by
   obtain ⟨z, hz, hy⟩ := List.mem_flatMap.1 hy
   exact List.mem_flatMap.2 ⟨z, List.mem_of_mem_take hz, hy⟩
  rw [hall, List.length_append] at hlen
  obtain ⟨xl, xu, xc⟩ := x
  simp only at hlen hall hxa hxl
  replace hrx : Row w b1 (o1 + i * 1) [.slice xu xl.length xc] := hrx
  generalize allD (ls.take i) = pre at hO hall hlen hsub
  repeat' (first | (with_reducible refine RunLN.decT ?_ ?_; focus omega) | (with_reducible refine RunLN.chk ?_; refine RunLN.int (by (rfl)) ?_) | refine ZzA ?_ | refine RunL.ev Tryz.tOk rfl rfl rfl ?_ | refine ZzT rfl rfl ?_ | refine ZzQ ?_ | refine ZzR ?_ | refine ZzN ?_ | refine ZzB ?_ | refine ZzK ?_)
  refine RunE.loop (ι := Nat × Value) (fun s => [(0, kv), (1, .slice (some ⟨b1, o1, none⟩) ls.length cc), (5, s.2), (6, .int .i64 (i : Int)), (7, .int .i64 (s.1 : Int))])
   (fun s w' => s.1 ≤ xl.length ∧ Ext w w' ∧ w'.ownsRow w.heap.size 38 39 s.2 (leftL Dr.d ks (pre ++ xl.take s.1)).length (flat Dr.cells (leftL Dr.d ks (pre ++ xl.take s.1)))) (fun s => xl.length - s.1) (0, u) (by repeat (first | exact Sub.nil _ | refine Sub.cons rfl ?_)) ⟨Nat.zero_le _, X, by rw [List.take_zero, List.append_nil]; exact hO⟩ ?_
  clear X hO
  rintro ⟨j, u⟩ w4 ⟨hj, X, hO⟩ again2
  simp only at hj hO again2 ⊢
  by_cases hjl : j < xl.length
  ·obtain ⟨b2, o2, c2, e2, hr2, -⟩ := isL_held hxl hjl
   obtain ⟨d, hdj⟩ : ∃ d, xl[j]? = some d := ⟨_, List.getElem?_eq_getElem hjl⟩
   have hrd := flat_row encR hr2 hdj
   have hwd := hd d (hxa d (List.mem_of_getElem? hdj))
   injection e2 with e3 _ e4
   subst e3
   subst e4
   have hacc : leftL Dr.d ks (pre ++ xl.take (j + 1)) = stepL Dr.d ks (leftL Dr.d ks (pre ++ xl.take j)) d := by
    rw [List.take_add_one, hdj, ← List.append_assoc]
    exact leftL_snoc Dr.d ks _ d
   have hos : ∀ y ∈ leftL Dr.d ks (pre ++ xl.take j), y ∈ allD ls := fun y hy => by
    rcases List.mem_append.1 (leftL_sub Dr.d hy) with h | h
    ·exact hsub y h
    ·exact hxa y (List.mem_of_mem_take h)
   have hol : (leftL Dr.d ks (pre ++ xl.take j)).length ≤ 4096 := by
    have := leftL_len Dr.d ks (pre ++ xl.take j)
    rw [List.length_append, List.length_take] at this
    omega
   generalize leftL Dr.d ks (pre ++ xl.take j) = out at hO hos hol hacc
   clear hall again hsub
   have hstep : stepL Dr.d ks out d = if fineD ks d.d && !thereL Dr.d out d.d then out ++ [d] else out := rfl
   have next := fun u' w' (a : Ext w w') (b : w'.ownsRow w.heap.size 38 39 u' (stepL Dr.d ks out d).length (flat Dr.cells (stepL Dr.d ks out d))) => again2 (j + 1, u') w' (by simp only; omega) ⟨by simp only; omega, a, by rw [hacc]; exact b⟩
   simp only at next
   clear again2 hacc
   have cT : ∀ w', Ext w4 w' → Rets Tryz.prog 69 [u, .agg d.cells.toArray] w' fun r w'' => r = .bool (thereL Dr.d out d.d) ∧ Ext w' w'' := fun w' e =>
    rthere_ok out u d w' (isSl_own (World.ownsRow.up hO e)) (by omega) (fun x hx => (hd x (hos x hx)).up (X.trans e)) (hwd.up (X.trans e))
   have X4 := X
   replace hrx := hrx.up X4
   replace hrd := hrd.up X4
   have cF' := fun w' (e : Ext w4 w') => cF d w' hwd (X4.trans e)
   replace X := ExtB.refl (fun _ => False) w4
   repeat' (first | (with_reducible refine RunLN.decT ?_ ?_; focus omega) | (with_reducible refine RunLN.chk ?_; refine RunLN.int (by (rfl)) ?_) | refine ZzA ?_ | refine RunL.ev Tryz.tOk rfl rfl rfl ?_ | refine RunL.evV rfl rfl rfl (OpV.load1 Tryz.tOk rfl rfl rfl ((hrx.up X) 0 _ rfl)) ?_ | refine RunL.evV rfl rfl rfl (OpV.loadN Tryz.tOk rfl rfl rfl rfl (hrd.up X)) ?_ | refine RunL.evV rfl rfl rfl (OpV.indexS Tryz.tOk _ rfl rfl rfl rfl (by omega)) ?_ | refine ZzT rfl rfl ?_ | refine ZzQ ?_ | refine ZzR ?_ | refine ZzN ?_ | refine ZzB ?_ | refine ZzK ?_)
   refine RunL.call rfl rfl rfl (cF' _ X) ?_
   rintro _ _ ⟨rfl, Xa_⟩
   replace X := X.trans Xa_
   clear Xa_
   cases hf : fineD ks d.d with
   | false =>
    rw [hf] at hstep
    repeat' (first | with_reducible refine ZzG rfl ?_ | (with_reducible refine RunLN.chk ?_; refine RunLN.int (by (first | (refine wr_i64 ?_ ?_; omega; omega) | rfl)) ?_) | refine RunL.ev Tryz.tOk rfl rfl rfl ?_ | refine RunL.unwantedD rfl rfl ?_ | refine ZzF rfl rfl ?_ | refine ZzR ?_ | refine ZzN ?_ | refine ZzI ?_ | refine ZzK ?_)
    exact RunE.weaken (by repeat (first | exact Sub.nil _ | refine Sub.cons rfl ?_)) (next _ _ (X4.trans X) (by rw [hstep]; exact World.ownsRow.up hO X))
   | true =>
   repeat' (first | with_reducible refine ZzP rfl ?_ | (with_reducible refine RunLN.chk ?_; refine RunLN.int (by (rfl)) ?_) | refine ZzA ?_ | refine RunL.ev Tryz.tOk rfl rfl rfl ?_ | refine RunL.evV rfl rfl rfl (OpV.load1 Tryz.tOk rfl rfl rfl ((hrx.up X) 0 _ rfl)) ?_ | refine RunL.evV rfl rfl rfl (OpV.loadN Tryz.tOk rfl rfl rfl rfl (hrd.up X)) ?_ | refine RunL.evV rfl rfl rfl (OpV.indexS Tryz.tOk _ rfl rfl rfl rfl (by omega)) ?_)
   refine RunL.call rfl rfl rfl (cT _ X) ?_
   rintro _ _ ⟨rfl, Xa_⟩
   replace X := X.trans Xa_
   clear Xa_
   cases ht : thereL Dr.d out d.d with
   | true =>
    rw [hf, ht] at hstep
    repeat' (first | with_reducible refine ZzG rfl ?_ | (with_reducible refine RunLN.chk ?_; refine RunLN.int (by (first | (refine wr_i64 ?_ ?_; omega; omega) | rfl)) ?_) | refine RunL.ev Tryz.tOk rfl rfl rfl ?_ | refine ZzF rfl rfl ?_ | refine ZzR ?_ | refine ZzN ?_ | refine ZzI ?_ | refine ZzK ?_)
    exact RunE.weaken (by repeat (first | exact Sub.nil _ | refine Sub.cons rfl ?_)) (next _ _ (X4.trans X) (by rw [hstep]; exact World.ownsRow.up hO X))
   | false =>
   rw [hf, ht] at hstep
   replace hstep : stepL Dr.d ks out d = out ++ [d] := hstep
   rw [hstep] at next
   repeat' (first | with_reducible refine ZzP rfl ?_ | (with_reducible refine RunLN.chk ?_; refine RunLN.int (by (rfl)) ?_) | refine ZzA ?_ | refine RunL.ev Tryz.tOk rfl rfl rfl ?_ | refine RunL.evV rfl rfl rfl (OpV.load1 Tryz.tOk rfl rfl rfl ((hrx.up X) 0 _ rfl)) ?_ | refine RunL.evV rfl rfl rfl (OpV.loadN Tryz.tOk rfl rfl rfl rfl (hrd.up X)) ?_ | refine RunL.evV rfl rfl rfl (OpV.indexS Tryz.tOk _ rfl rfl rfl rfl (by omega)) ?_ | refine ZzT rfl rfl ?_ | refine ZzR ?_ | refine ZzN ?_)
   refine RunL.ex rfl rfl rfl (OpE.buildN encR Tryz.tOk [d] rfl rfl rfl rfl rfl rfl) ?_
   rintro _ w6 ⟨⟨B15, rfl, l15⟩, hx1, Xa_⟩
   replace X := X.trans Xa_
   replace hO := World.ownsRow.up hO X
   have hs6 : w.heap.size ≤ w6.heap.size := (X4.trans X).size
   clear Xa_
   skip
   refine RunL.ex rfl rfl rfl (OpE.append' Tryz.tOk rfl rfl rfl rfl rfl rfl hO hx1 (flat_plain encR [d]) (by show _ * 120 ≤ _; simp only [List.length_singleton]; omega) (by simp only [List.length_singleton]; omega) hs6) ?_
   rintro u' w8 ⟨O8, E8, -⟩
   have X8 : Ext w w8 := (X4.trans X).write E8 (by intro k hk hlt; have := ownsRow_ge hO hk; omega)
   repeat' (first | (with_reducible refine RunLN.chk ?_; refine RunLN.int (by (first | (refine wr_i64 ?_ ?_; omega; omega) | rfl)) ?_) | refine ZzA ?_ | refine RunL.ev Tryz.tOk rfl rfl rfl ?_ | refine ZzR ?_ | refine ZzN ?_ | refine ZzI ?_)
   exact RunE.weaken (by repeat (first | exact Sub.nil _ | refine Sub.cons rfl ?_)) (next _ _ X8 (by rw [List.length_append, flat_append]; exact O8))
  ·obtain rfl : j = xl.length := by omega
   rw [List.take_length, ← hall] at hO
   clear again2
   repeat' (first | (with_reducible refine RunLN.decF ?_ ?_; focus omega) | (with_reducible refine RunLN.chk ?_; refine RunLN.int (by (first | (refine wr_i64 ?_ ?_; omega; omega) | rfl)) ?_) | refine ZzA ?_ | refine RunL.ev Tryz.tOk rfl rfl rfl ?_ | refine RunL.evV rfl rfl rfl (OpV.load1 Tryz.tOk rfl rfl rfl ((hrx.up X) 0 _ rfl)) ?_ | refine RunL.evV rfl rfl rfl (OpV.indexS Tryz.tOk _ rfl rfl rfl rfl (by omega)) ?_ | refine ZzF rfl rfl ?_ | refine ZzQ ?_ | refine ZzR ?_ | refine ZzN ?_ | refine ZzI ?_ | refine RunE.exit rfl ?_)
   exact RunE.weaken (by repeat (first | exact Sub.nil _ | refine Sub.cons rfl ?_)) (again (i + 1, u) _ (by simp only; omega) ⟨by simp only; omega, X, hO⟩)
 ·obtain rfl : i = ls.length := by omega
  rw [List.take_length] at hO
  clear again
  repeat' (first | (with_reducible refine RunLN.decF ?_ ?_; focus omega) | (with_reducible refine RunLN.chk ?_; refine RunLN.int (by (rfl)) ?_) | refine ZzA ?_ | refine RunL.ev Tryz.tOk rfl rfl rfl ?_ | refine RunL.evV rfl rfl rfl (OpV.lenSl Tryz.tOk rfl rfl hv) ?_ | refine ZzF rfl rfl ?_ | refine ZzQ ?_ | refine ZzR ?_ | refine ZzN ?_ | refine RunE.exit rfl ?_)
  exact RunE.retFn Tryz.func43 (.tmp rfl .nil) ⟨hO, X⟩
end Go.Sg
end
