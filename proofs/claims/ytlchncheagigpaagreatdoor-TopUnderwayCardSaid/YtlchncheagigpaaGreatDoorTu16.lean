/- Parts of this project: Jud3, CompI, JudC, Jud4. -/
import Derived.Test.YtlchncheagigpaaGreatDoorTu15
import Derived.Test.YtlchncheagigpaaGreatDoorTu03
import Derived.Test.YtlchncheagigpaaGreatDoorTu02
import Derived.Shelf.Slices.CompactI
import Derived.Test.YtlchncheagigpaaGreatDoorTu14
import Derived.Sort.OwnSortedInts
import Derived.Lib.OwnBridge
import Derived.Test.YtlchncheagigpaaGreatDoorTu04
set_option maxHeartbeats 32000000
set_option linter.unusedSimpArgs false
set_option linter.unusedVariables false
set_option linter.unusedSectionVars false
section
set_option maxRecDepth 4000
namespace Go.Rec
open Go.Rn
theorem row_kept {w w' : World} {b o : Nat} {cs : List Value} (h : Row w b o cs) (e : w'.heap[b]? = w.heap[b]?) : Row w' b o cs := fun i v hv => cell_kept (h i v hv) e
theorem kept_up {w0 w1 w2 : World} {G : Nat → Prop} (h : ∀ k, G k → w1.heap[k]? = w0.heap[k]?) (hG : ∀ k, G k → k < w0.heap.size) (e : Ext w1 w2) : ∀ k, G k → w2.heap[k]? = w0.heap[k]? := fun k hk => by
 have h1 := h k hk
 have h2 : ∃ o, w0.heap[k]? = some o := ⟨_, Array.getElem?_eq_getElem (hG k hk)⟩
 obtain ⟨o, ho⟩ := h2
 rw [ho] at h1 ⊢
 exact obj_ext h1 e id
theorem kept_trans {w0 w1 w2 : World} {G : Nat → Prop} (h : ∀ k, G k → w1.heap[k]? = w0.heap[k]?) (h' : ∀ k, G k → w2.heap[k]? = w1.heap[k]?) : ∀ k, G k → w2.heap[k]? = w0.heap[k]? := fun k hk => (h' k hk).trans (h k hk)
end Go.Rec
namespace Go.Jud
open Go.Rn Go.Rec Go.Doc Go.Pol Go.Apv Go.Best
theorem polOk_rules {p : Po} (h : checkP p = true) : p.rules.length = p.kinds.length ∧ ∀ (i : Nat) (r : Ru), p.rules[i]? = some r → 0 ≤ r.think ∧ r.think ≤ 1099511627775 := by
 unfold checkP okP formB form1 at h
 simp only [Bool.and_eq_true, decide_eq_true_eq, List.all_eq_true] at h
 have hl := h.1.2.2.1.2.1
 refine ⟨hl, fun i r hr => ?_⟩
 have hi := (List.getElem?_eq_some_iff.1 hr).1
 have h2 := h.1.2.2.2.1 i (List.mem_range.2 hi)
 unfold ruleB at h2
 rw [hr, List.getElem?_eq_getElem (show i < p.kinds.length by omega)] at h2
 simp only [Bool.and_eq_true, decide_eq_true_eq] at h2
 exact h2.2
theorem avOk {l : List Av} (h : chkV l = 0) : ∀ x ∈ l, rightV x = true := fun x hx => ((good_srt ((chk_ok (by decide)).1 h).2).2 x hx).2
theorem counting_mem {doc begun think t kn : Int} {l : List Av} {x : Av} (h : x ∈ countingA doc begun think t kn l) : x ∈ l := (List.mem_filter.1 (List.mem_filter.1 (List.mem_filter.1 h).1).1).1
theorem counting_len (doc begun think t kn : Int) (l : List Av) : (countingA doc begun think t kn l).length ≤ l.length := Nat.le_trans (List.length_filter_le _ _) (Nat.le_trans (List.length_filter_le _ _) (List.length_filter_le _ _))
theorem filter_split {α : Type} (p : α → Bool) {l : List α} {i : Nat} {x : α} (hx : l[i]? = some x) (hp : p x = true) : l.filter p = (l.take i).filter p ++ x :: (l.drop (i + 1)).filter p := by
 have e : l = l.take i ++ x :: l.drop (i + 1) := by
  obtain ⟨hi, e⟩ := List.getElem?_eq_some_iff.1 hx
  rw [← e, List.getElem_cons_drop, List.take_append_drop]
 conv => lhs; rw [e]
 rw [List.filter_append, List.filter_cons, if_pos hp]
theorem filter_take1 {α : Type} (p : α → Bool) {l : List α} {i : Nat} {x : α} (hx : l[i]? = some x) : (l.take (i + 1)).filter p = (l.take i).filter p ++ if p x then [x] else [] := by
 rw [List.take_add_one, hx, List.filter_append]
 cases h : p x <;> simp [h]
end Go.Jud
namespace Go.Sg
open Go.Rn Go.Proofs Go.Rec Go.RowKit Go.Jud Go.Doc Go.Pol Go.Apv Go.Best Go.Off Go.Dep
attribute [local irreducible] Go.Rn.RetsX Go.Rn.RunLN Go.Rn.AsyN Go.Rn.RunL Go.Rn.RunE Go.Rn.Asy Go.Rn.OpV Go.Rn.OpE Go.Rn.ExecE
structure QOk (w w' : World) (q : Value) (L : List Av) : Prop where
 l : IsL w' Av.cells 8 q L
 n : ∀ k, q.ownBlock = some k → w.heap.size ≤ k
theorem QOk.up {w w' w'' : World} {q : Value} {L : List Av} (h : QOk w w' q L) (e : Ext w' w'') : QOk w w'' q L := ⟨h.l.up e, h.n⟩
abbrev goodVv (b1 b2 : Nat) : Value := .func (.func 122) #[] #[.pointer (some ⟨b1, 0, none⟩), .pointer (some ⟨b2, 0, none⟩)]
theorem holds_e0 {l : List Ap} {o p t kn : Int} (h : chkA l = 0) (ho : 0 ≤ o ∧ o < 32) (hp : 0 ≤ p ∧ p < 64) (ht : 0 ≤ t ∧ t < 1099511627776) (hk : 0 ≤ kn ∧ kn < 1099511627776) : holdE l o p t kn = 0 := by
 unfold holdE
 rw [if_pos h]
 unfold argO argP argT
 rw [decide_eq_true ho, decide_eq_true hp, decide_eq_true ht, decide_eq_true hk]; rfl
theorem good_gives (c : Ct) (p : Po) (N b1 b2 : Nat) (wN w0 : World) (E : Ext wN w0) (hR : HoldR wN N c.r) (hC : OkC c) (hP : HoldP wN N p) (hc : checkP p = true) (Y1 : Blk w0 b1 c.cells 60) (Y2 : Blk w0 b2 p.cells 80) :
  GivesK Tryz.prog (goodVv b1 b2) (fun ys => ys = goodsP c p) (fun x => [avV x]) w0 (fun k => k = b1 ∨ k = b2 ∨ k < wN.heap.size) := by
 intro S J y w hS hX hJ0 hJX hJup hy
 refine RetsX.v (fi := []) (args := [y]) (ca := [.pointer (some ⟨b1, 0, none⟩), .pointer (some ⟨b2, 0, none⟩)]) ?_
 change RetsX Tryz.prog 122 [y, .pointer (some ⟨b1, 0, none⟩), .pointer (some ⟨b2, 0, none⟩)] _ _ _
 have hSN : ∀ k, S k → wN.heap.size ≤ k := fun k hk => by
  rcases Nat.lt_or_ge k wN.heap.size with h | h
  ·exact absurd hk (hS k (.inr (.inr h)))
  ·exact h
 have at_ : ∀ u, ExtB S w0 u → Blk u b1 c.cells 60 ∧ Blk u b2 p.cells 80 ∧ HoldR u N c.r ∧ HoldP u N p := fun u e =>
  ⟨Y1.ext e (hS _ (.inl rfl)), Y2.ext e (hS _ (.inr (.inl rfl))), hR.keep ((ExtB.of_ext E).trans e) hSN, hP.ext ((ExtB.of_ext E).trans e) fun k hk => Nat.le_trans hR.hv.n (hSN k hk)⟩
 obtain ⟨U1, U2, UR, UP⟩ := at_ w hX
 have hd := (chkDoc_in hC.r.k).2.1 c.d.d (List.mem_map.2 ⟨c.d, hC.m, rfl⟩)
 obtain ⟨hnum, -⟩ := right_len hd.1
 obtain ⟨n1, n2, n3, n4, n5, n6, n7, n8, n9, n10, n11⟩ := hnum
 obtain ⟨ht0, ht1⟩ := hC.t
 obtain ⟨hk0, hk1⟩ := hC.k
 obtain ⟨hrl, hth⟩ := polOk_rules hc
 unfold goodsP at hy ⊢
 refine en Tryz.func122 124 fun hf_ => ?_
 by_cases hkind : c.d.d.kind < (p.kinds.length : Int)
 case neg =>
  rw [if_neg hkind]
  refine rt ?_
  exact ⟨_, [], rfl, hJ0 (fun _ => False) w (ExtB.refl _ _) (fun _ h => h.elim)⟩
 rw [if_pos hkind] at hy ⊢
 obtain ⟨kd, hkd⟩ : ∃ kd : Nat, c.d.d.kind = kd := ⟨c.d.d.kind.toNat, by omega⟩
 have hkl : kd < p.rules.length := by omega
 obtain ⟨ru, hru⟩ : ∃ ru, p.rules[kd]? = some ru := ⟨_, List.getElem?_eq_getElem hkl⟩
 have hthk : thinkP p c.d.d.kind = ru.think := by unfold thinkP; rw [hkd, Int.toNat_natCast, hru]
 rw [hthk] at hy ⊢
 obtain ⟨th0, th1⟩ := hth kd ru hru
 have call := fun w' (h : IsL w' Av.cells 8 (.slice c.r.nu c.r.av.length c.r.nc) c.r.av) => acount_ok c.d.d.no c.d.d.at_ ru.think c.at_ c.kn c.r.av _ w' hC.r.n ⟨n1, by omega⟩ ⟨n3, by omega⟩ ⟨th0, th1⟩ ⟨ht0, by omega⟩ ⟨hk0, by omega⟩ h
 have hcm : ∀ x ∈ countingA c.d.d.no c.d.d.at_ ru.think c.at_ c.kn c.r.av, rightV x = true := fun x hx => avOk hC.r.n x (counting_mem hx)
 have hcl : (countingA c.d.d.no c.d.d.at_ ru.think c.at_ c.kn c.r.av).length ≤ 24 := Nat.le_trans (counting_len ..) UR.nl
 generalize countingA c.d.d.no c.d.d.at_ ru.think c.at_ c.kn c.r.av = L at call hy hcm hcl ⊢
 obtain ⟨rb, ro, rcap, hve, hr, -⟩ := isL_held UP.r hkl
 have hrx := flat_row encRu hr hru
 have hu : p.ru = some ⟨rb, ro, none⟩ := by injection hve
 have U3 : Blk w b2 [.string p.name, .slice p.ku p.kinds.length p.kc, .slice p.ou p.offices.length p.oc, .slice (some ⟨rb, ro, none⟩) p.rules.length p.rc, .int .i64 p.change.kind, .int .i64 p.change.n, .int .i64 p.change.no, .string p.change.name, .slice p.change.u p.change.l.length p.change.c, .int .i64 p.mode] 80 := by
  rw [← hu]; exact U2
 clear U2
 have hthr : Row w rb (ro + kd * 8 + 2) [.int .i64 ru.think] := fun i v hv => by
  have := hrx (2 + i) v (by
   cases i with
   | zero => simpa using hv
   | succ i => simp at hv)
  rw [Nat.add_assoc]; exact this
 refine g ?_
 refine RunE.draw (fun _ => False) mix' ?_
 intro wd Xd
 refine ga ?_
 refine Asy.evV rfl rfl rfl rfl (fun _ X_ => OpV.indexS Tryz.tOk kd rfl rfl rfl hkd hkl) ?_
 refine ga ?_
 refine Asy.sat0 (fun a w' => ∃ q, a = .tuple #[q, .int .i64 0] ∧ QOk w w' q L) rfl rfl rfl rfl (fun a w' w'' _ e h => by obtain ⟨q, h1, h2⟩ := h; exact ⟨q, h1, h2.up e⟩) (fun w' e => ?_) ?_
 ·refine OpE.mono (OpE.call rfl (call w' (UR.up (Xd.trans e)).av)) ?_ fun _ _ h => h
  rintro a w'' ⟨⟨q, h1, h2, h3⟩, h4⟩; exact ⟨h4, q, h1, h2, fun k hk => by have := h3 k hk; have := (Xd.trans e).size; omega⟩
 refine Asy.sat1P Tryz.tOk 0 (fun a w' => ∃ q, a = .tuple #[q, .int .i64 0] ∧ QOk w w' q L) rfl rfl rfl rfl rfl rfl (fun a w' w'' _ e h => by obtain ⟨q, h1, h2⟩ := h; exact ⟨q, h1, h2.up e⟩) (fun w' q e hx => ⟨q, rfl, hx⟩) ?_
 refine Asy.sat1P Tryz.tOk 0 (fun q w' => QOk w w' q L) rfl rfl rfl rfl rfl rfl (fun q w' w'' _ e h => h.up e) (fun w' q e hx => by obtain ⟨r, rfl, h⟩ := hx; exact ⟨r, rfl, h⟩) ?_
 refine Asy.val1P Tryz.tOk 1 (v := .int .i64 0) rfl rfl rfl rfl rfl rfl (fun w' q e hx => by obtain ⟨r, rfl, h⟩ := hx; rfl) ?_
 refine Asy.sat1P Tryz.tOk 0 (fun q w' => QOk w w' q L) rfl rfl rfl rfl rfl rfl (fun q w' w'' _ e h => h.up e) (fun w' q e hx => ⟨q, rfl, hx⟩) ?_
 refine ga ?_
 refine Asy.tail (by decide +kernel) fun we Xe => ?_
 simp only [satsAll]
 rintro q hq x1 - x2 - x3 -
 have X1 : Ext w we := Xd.trans Xe
 obtain ⟨hq, hqg⟩ := hq
 obtain ⟨dq, cq, rfl⟩ := isSl_slice hq
 generalize hGd : (fun k : Nat => L ≠ [] ∧ (Value.slice dq L.length cq).ownBlock = some k) = G
 have hGk : ∀ k, G k → w.heap.size ≤ k ∧ k < we.heap.size := fun k hk => by
  rw [← hGd] at hk
  exact ⟨hqg k hk.2, isL_own hq (by decide) hk.1 hk.2⟩
 have hJ := hJ0 G we X1 hGk
 clear hJ0 U1 U3 UR UP hrx hthr hve hr call
 refine g ?_
 refine rangeL hq encAv 48 49 50 (fun _ : Unit => [(0, y), (1, .pointer (some ⟨b1, 0, none⟩)), (2, .pointer (some ⟨b2, 0, none⟩))])
  (fun i _ w' => (∀ k, G k → w'.heap[k]? = we.heap[k]?) ∧ J G ((L.take i).filter (goodP c)) w') () sb_ ⟨fun _ _ => rfl, hJ⟩ ?_ ?_
 ·rintro i ⟨⟩ x w3 hx ⟨hk3, hJ3⟩ b o cap hveq hrq hlt again
  rw [hveq] at again ⊢
  have hne : L ≠ [] := List.ne_nil_of_length_pos (by omega)
  have hGb : G b := by rw [← hGd]; exact ⟨hne, by rw [hveq]; rfl⟩
  have hrx := row_kept hrq (hk3 b hGb)
  obtain ⟨V1, V2, VR, VP⟩ := at_ w3 (hJX _ _ _ hJ3)
  have hxr := hcm x (List.mem_of_getElem? hx)
  unfold rightV at hxr
  obtain ⟨q1, q2, q3, q4, q5, q6, q7, q8, q9, q10, q11, q12, q13, q14⟩ := of_decide_eq_true hxr
  have ft := filter_take1 (goodP c) hx
  rw [ft] at again
  have skip : goodP c x = false → ∀ w', Ext w3 w' → _ := fun h w' e => again () w' ⟨kept_up hk3 (fun k hk => (hGk k hk).2) e, by rw [h]; simpa using hJup _ _ _ _ hJ3 (ExtB.of_ext e)⟩
  have give : goodP c x = true → ∀ w', (∀ k, G k → w'.heap[k]? = we.heap[k]?) → J G ((L.take i).filter (goodP c) ++ [x]) w' → _ := fun h w' h1 h2 => again () w' ⟨h1, by rw [h]; exact h2⟩
  clear again ft
  have hgd : goodP c x = ((holdV c.r.ap x.office x.for_ c.at_ c.kn).2.2 && (chainB ⟨x.office, c.d.d.kind, c.d.d.value, c.at_, c.kn⟩ c.r.dp x.for_ x.by_ && (!biasP c x.for_ && !biasP c x.by_))) := rfl
  have hal := VR.al
  have cH := fun w' (e : Ext w3 w') => oholds_ok c.r.ap _ x.office x.for_ c.at_ c.kn w' (VR.up e).ap (by omega)
  rw [holds_e0 hC.r.a ⟨q13, by omega⟩ ⟨q11, by omega⟩ hC.t hC.k] at cH
  have cC := fun w' (e : Ext w3 w') => dchain_ok c.r.dp _ x.for_ x.by_ x.office c.d.d.kind c.d.d.value c.at_ c.kn w' hC.r.d ⟨q11, q12, q9, q10, q13, q14, n5, by simp only; omega, n7, n8, ht0, by simp only; omega, hk0, by simp only; omega⟩ (VR.up e).dp
  have cB := fun w' (e : Ext w3 w') p hp => biased_ok c N p w' (VR.up e) hC hp
  generalize (holdV c.r.ap x.office x.for_ c.at_ c.kn).1 = hv1 at cH
  generalize (holdV c.r.ap x.office x.for_ c.at_ c.kn).2.1 = hv2 at cH
  generalize (holdV c.r.ap x.office x.for_ c.at_ c.kn).2.2 = H at cH hgd
  generalize chainB ⟨x.office, c.d.d.kind, c.d.d.value, c.at_, c.kn⟩ c.r.dp x.for_ x.by_ = C at cC hgd
  have cB1 := fun w' e => cB w' e x.for_ ⟨q11, by omega⟩
  have cB2 := fun w' e => cB w' e x.by_ ⟨q9, by omega⟩
  generalize biasP c x.for_ = b1' at cB1 hgd
  generalize biasP c x.by_ = b2' at cB2 hgd
  generalize hgx : goodP c x = gx_ at hgd skip give
  refine g1 (cs := x.cells) fun B7 w4 E4 G4 Z4 => ?_
  refine g ?_
  refine gc (cH w4 E4) ?_
  rintro _ w5 ⟨rfl, E5⟩
  refine g ?_
  refine gc (cC w5 (E4.trans E5)) ?_
  rintro _ w6 ⟨⟨pp, rfl⟩, E6⟩
  have X6 : Ext w3 w6 := (E4.trans E5).trans E6
  have Z46 := Z4.up (E5.trans E6)
  cases H with
  | false =>
   refine g ?_
   exact RunE.weaken sb_ (skip hgd w6 X6)
  | true =>
   cases C with
   | false =>
    refine g ?_
    exact RunE.weaken sb_ (skip hgd w6 X6)
   | true =>
    have V16 := V1.up X6
    refine g ?_
    refine gc (cB1 w6 X6) ?_
    rintro _ w7 ⟨rfl, E7⟩
    cases b1' with
    | true =>
     refine g ?_
     exact RunE.weaken sb_ (skip hgd w7 (X6.trans E7))
    | false =>
     refine g ?_
     refine gc (cB2 w7 (X6.trans E7)) ?_
     rintro _ w8 ⟨rfl, E8⟩
     have X8 : Ext w3 w8 := (X6.trans E7).trans E8
     cases b2' with
     | true =>
      refine g ?_
      exact RunE.weaken sb_ (skip hgd w8 X8)
     | false =>
      have hsp := filter_split (goodP c) hx (by rw [hgx]; exact hgd)
      have hJ8 := hJup _ _ _ _ hJ3 (ExtB.of_ext X8)
      have hk8 := kept_up hk3 (fun k hk => (hGk k hk).2) X8
      refine g ?_
      refine RunL.ex rfl rfl rfl (OpE.callV rfl rfl (hy _ _ x _ _ hsp.symm hJ8)) ?_
      rintro _ w9 ⟨rfl, hJ9, hk9⟩
      refine g ?_
      exact RunE.weaken sb_ (give hgd w9 (kept_trans hk8 hk9) hJ9)
 ·rintro ⟨⟩ w3 ⟨hk3, hJ3⟩
  rw [List.take_length] at hJ3
  refine g ?_
  refine RunE.fallFn hf_ .nil ?_
  exact ⟨G, _, rfl, hJ3⟩
end Go.Sg
end
section
set_option maxRecDepth 4000
namespace Go.Proofs
open Go.Shelf Go.RowKit Go.Lib Go.Sort
def Tryz.compI_ren : Go.Shelf.Ren := ⟨fun | 20 => 54 | n => n, fun | 22 => 31 | 3 => 3 | 4 => 4 | 0 => 0 | n => n, fun | n => n⟩
theorem Tryz.compI : Go.Proofs.Lays2.n20 Tryz.prog Tryz.compI_ren where
 mixed := by kernel_rfl
 f20 := Tryz.func54.trans (congrArg some (by kernel_rfl))
 t0 := Tryz.underlying0
 a0 := Tryz.isAgg0
 z0 := Tryz.sizeOf0
 v0 := Tryz.zeroValue0
 t3 := Tryz.underlying3
 a3 := Tryz.isAgg3
 z3 := Tryz.sizeOf3
 v3 := Tryz.zeroValue3
 t4 := Tryz.underlying4
 a4 := Tryz.isAgg4
 z4 := Tryz.sizeOf4
 v4 := Tryz.zeroValue4
 t22 := Tryz.underlying31
 a22 := Tryz.isAgg31
 z22 := Tryz.sizeOf31
 v22 := Tryz.zeroValue31
 i3 := by kernel_rfl
end Go.Proofs
end
section
set_option maxRecDepth 4000
namespace Go.Rn
open Go.RowKit Go.Sort Go.Proofs Go.Rec
theorem flat_int : ∀ l : List Int, flat Go.Sg.intC l = l.map (Value.int .i64)
 | [] => rfl
 | x :: l => by rw [flat_cons, flat_int l]; rfl
theorem ext_putI {w : World} {blk off q : Nat} {d : Array Int} : ExtB (· = blk) w (putRow (Value.int .i64) (Sort.ahead w q) blk off d) := by
 have := ext_sortI (w := w) (blk := blk) (off := off) (m := q) (d := d) (os := #[])
 have e : sortWorld (Value.int .i64) w blk off q d #[] = putRow (Value.int .i64) (Sort.ahead w q) blk off d := by
  unfold sortWorld grow
  rw [Array.append_empty]
 rw [e] at this
 exact this
end Go.Rn
namespace Go.Sg
open Go.Rn Go.Proofs Go.Rec Go.Sort Go.RowKit Go.Und
abbrev OwnI (w : World) (base : Nat) (v : Value) (l : List Int) : Prop := w.ownsRow base 3 1 v l.length (flat intC l)
theorem srtP_ok (l : List Int) (v : Value) (base : Nat) (w : World) (hl : l.length ≤ 100000) (hO : OwnI w base v l) :
  Rets Tryz.prog 28 [v] w fun _ w' => OwnI w' base v (srtI l) ∧ ExtB (fun k => v.ownBlock = some k) w w' := by
 have body : Body Tryz.prog 28 := ⟨_, Tryz.func28, by kernel_rfl, by kernel_rfl⟩
 by_cases h0 : l.length = 0
 ·obtain rfl := List.length_eq_zero_iff.1 h0
  have hIs : IsL w intC 1 v [] := isSl_own hO
  obtain ⟨d, c, rfl⟩ := isSl_slice hIs
  refine ⟨body, (AnyM.slices_Sort_int_none Tryz.srtI d c w).mono ?_⟩
  rintro e w' ⟨rfl, rfl⟩
  exact ⟨by rw [show srtI [] = [] from List.length_eq_zero_iff.1 (srtI_len [])]; exact hO, ExtB.refl _ _⟩
 ·have hO' := hO
  rcases hO.2 with ⟨-, h0'⟩ | ⟨b, cap, cur, rfl, hbg, hb, hnc, hcm, hcs, htake⟩
  ·exact absurd h0' h0
  have hbl : b < w.heap.size := lt_of_get hb
  have hH : Holds (Value.int .i64) w b 0 l.toArray := holds_int (holds_of encI (base := base) (n := l.length) (cap := cap) (e := 3) hO (by simp))
  refine ⟨body, (AnyM.slices_Sort_int Tryz.srtI b 0 cap l w hH hbl (by omega)).mono ?_⟩
  rintro e w' ⟨rfl, n, os, rfl⟩
  refine ⟨?_, (ext_sortI (w := w) (blk := b) (off := 0) (m := n) (d := (l.mergeSort fun x y => decide (x ≤ y)).toArray) (os := os)).mono fun k _ h => by subst h; rfl⟩
  have := ownsRow_sortedI (n := n) (os := os) (ss := l) (ts := srtI l) (srtI_len l) hbg hb hnc hcm hcs
  show World.ownsRow _ base 3 1 _ (srtI l).length (flat intC (srtI l))
  rw [flat_int, srtI_len]
  exact this
theorem compactP_ok (l : List Int) (v : Value) (base : Nat) (w : World) (hl : l.length ≤ 100000) (hO : OwnI w base v l) :
  Rets Tryz.prog 54 [v] w fun r w' => (OwnI w' base r (Go.Lib.compact l) ∧ ∀ k, r.ownBlock = some k → v.ownBlock = some k) ∧ ExtB (fun k => v.ownBlock = some k) w w' := by
 have body : Body Tryz.prog 54 := ⟨_, Tryz.func54, by kernel_rfl, by kernel_rfl⟩
 by_cases h0 : l.length = 0
 ·obtain rfl := List.length_eq_zero_iff.1 h0
  have hIs : IsL w intC 1 v [] := isSl_own hO
  obtain ⟨d, c, rfl⟩ := isSl_slice hIs
  refine ⟨body, (Any.slices_Compact_int_empty Tryz.compI d c w).mono ?_⟩
  rintro e w' ⟨rfl, rfl⟩
  exact ⟨⟨by rw [show Go.Lib.compact ([] : List Int) = [] from rfl]; exact hO, fun k hk => hk⟩, ExtB.refl _ _⟩
 ·rcases hO.2 with ⟨-, h0'⟩ | ⟨b, cap, cur, rfl, hbg, hb, hnc, hcm, hcs, htake⟩
  ·exact absurd h0' h0
  have hH : Holds (Value.int .i64) w b 0 l.toArray := holds_int (holds_of encI (base := base) (n := l.length) (cap := cap) (e := 3) hO (by simp))
  refine ⟨body, (Any.slices_Compact_int Tryz.compI b 0 cap l w hH (by omega) hnc).mono ?_⟩
  rintro e w' ⟨rfl, q, rfl⟩
  refine ⟨⟨?_, fun k hk => hk⟩, ext_putI.mono fun k _ h => by subst h; rfl⟩
  have hle := Go.Lib.compact_length_le l
  have hO2 : w.ownsRow base 3 1 (.slice (some ⟨b, 0, none⟩) l.length cap) l.length (l.map (Value.int .i64)) := by rw [← flat_int]; exact hO
  have := Go.Lib.ownsRow_putRow (q := q) (k := (Go.Lib.compact l).length) (ys := Go.Lib.compact l ++ List.replicate (l.length - (Go.Lib.compact l).length) 0) hO2 (by simp; omega) hle
  rw [List.take_left] at this
  show World.ownsRow _ base 3 1 _ (Go.Lib.compact l).length (flat intC (Go.Lib.compact l))
  rw [flat_int]
  exact this
theorem srtO_ok (l : List Int) (v : Value) (base : Nat) (w : World) (hl : l.length ≤ 100000) (hO : OwnI w base v l) :
  Rets Tryz.prog 28 [v] w fun _ w' => OwnI w' base v (srtI l) ∧ ExtB (fun k => base ≤ k) w w' :=
 (srtP_ok l v base w hl hO).mono fun _ _ h => ⟨h.1, h.2.mono fun k _ hk => ownsRow_ge hO hk⟩
theorem compact_ok (l : List Int) (v : Value) (base : Nat) (w : World) (hl : l.length ≤ 100000) (hO : OwnI w base v l) :
  Rets Tryz.prog 54 [v] w fun r w' => OwnI w' base r (Go.Lib.compact l) ∧ ExtB (fun k => base ≤ k) w w' :=
 (compactP_ok l v base w hl hO).mono fun _ _ h => ⟨h.1.1, h.2.mono fun k _ hk => ownsRow_ge hO hk⟩
end Go.Sg
end
section
set_option maxRecDepth 4000
namespace Go.Sg
open Go.Rn Go.Proofs Go.Rec Go.RowKit Go.Jud Go.Doc Go.Pol Go.Apv Go.Best Go.Und
attribute [local irreducible] Go.Rn.RetsX Go.Rn.RunLN Go.Rn.AsyN Go.Rn.RunL Go.Rn.RunE Go.Rn.Asy Go.Rn.OpV Go.Rn.OpE Go.Rn.ExecE
theorem good_ok (c : Ct) (p : Po) (N : Nat) (wN w : World) (E : Ext wN w) (hR : HoldR wN N c.r) (hC : OkC c) (hP : HoldP wN N p) (hc : checkP p = true) :
  Rets Tryz.prog 87 [ctV c, poV p] w fun r w' => (∃ F : Nat → Prop, GivesK Tryz.prog r (fun ys => ys = goodsP c p) (fun x => [avV x]) w' F ∧ ∀ k, F k → k < w'.heap.size ∧ (w.heap.size ≤ k ∨ k < wN.heap.size)) ∧ Ext w w' := by
 refine en Tryz.func87 6 fun hf_ => ?_
 refine g1 (cs := c.cells) fun B1 w1 E1 G1 Z1 => ?_
 refine g1 (cs := p.cells) fun B2 w2 E2 G2 Z2 => ?_
 refine rt ?_
 have X : Ext w w2 := E1.trans E2
 have s1 := E1.size
 have l1 := (Z1.up E2).lt
 have l2 := Z2.lt
 refine ⟨⟨_, good_gives c p N B1 B2 wN w2 (E.trans X) hR hC hP hc (Z1.up E2) Z2, fun k hk => ?_⟩, X⟩
 rcases hk with rfl | rfl | h
 ·exact ⟨l1, .inl G1⟩
 ·exact ⟨l2, .inl (by omega)⟩
 ·exact ⟨Nat.lt_of_lt_of_le h (Nat.le_trans E.size X.size), .inr h⟩
theorem goods_len (c : Ct) (p : Po) (h : c.r.av.length ≤ 24) : (goodsP c p).length ≤ 24 := by
 unfold goodsP
 split
 ·exact Nat.le_trans (List.length_filter_le _ _) (Nat.le_trans (counting_len ..) h)
 ·simp
theorem people_len (c : Ct) (p : Po) (h : c.r.av.length ≤ 24) : (peopleP c p).length ≤ 24 := by
 unfold peopleP
 have h1 := Go.Lib.compact_length_le (srtI ((goodsP c p).map Av.for_))
 have h2 := srtI_len ((goodsP c p).map Av.for_)
 have h3 := goods_len c p h
 rw [List.length_map] at h2
 omega
theorem people_ok (c : Ct) (p : Po) (N : Nat) (w : World) (hR : HoldR w N c.r) (hC : OkC c) (hP : HoldP w N p) (hc : checkP p = true) :
  Rets Tryz.prog 52 [ctV c, poV p] w fun r w' => OwnI w' w.heap.size r (peopleP c p) ∧ Ext w w' := by
 have hgl := goods_len c p hR.nl
 refine en Tryz.func52 19 fun hf_ => ?_
 refine g1 (cs := c.cells) fun B2 w1 E1 G1 Z1 => ?_
 refine g1 (cs := p.cells) fun B3 w2 E2 G2 Z2 => ?_
 refine g ?_
 refine RunL.alloc Tryz.tOk rfl rfl rfl fun B4 w3 a4 => ?_
 have E3 := a4.ext
 have n4 := a4.eq
 have Z4 : Blk w3 B4 [.slice none 0 0] 31 := a4.at_
 clear a4
 have X3 : Ext w w3 := (E1.trans E2).trans E3
 have s2 := (E1.trans E2).size
 have l4 := Z4.lt
 refine gc (good_ok c p N w w3 X3 hR hC hP hc) ?_
 rintro fv w4 ⟨⟨F, hG, hF⟩, E4⟩
 have X4 : Ext w w4 := X3.trans E4
 have Z44 := Z4.up E4
 have s4 := E4.size
 have s3 := E3.size
 have s0 := (E1.trans E2).size
 refine g ?_
 refine RunE.rangeGivesK (w0 := w4) (F := F) rfl ⟨_, hf_⟩ rfl hG (fun k => k = B4) (fun k hk => ?_) (ExtB.refl _ _) (fun _ => rfl) rfl
  (fun G ys w' => (∃ u, Blk w' B4 [u] 31 ∧ w'.ownsRow (w4.heap.size + 2) 3 1 u ys.length (flat intC (ys.map Av.for_)) ∧ ∀ k, u.ownBlock = some k → ¬ G k) ∧ (∀ k, G k → w4.heap.size + 2 ≤ k ∧ k < w'.heap.size) ∧ ExtB (fun k => k = B4) w4 w') ?_ ?_ ?_ ?_ ?_ ?_
 ·have := hF k hk
  exact ⟨by omega, by omega⟩
 ·intro G w5 e h1; exact ⟨⟨_, Z44.up e, World.ownsRow_nil _ _ _ _, fun k hk => by simp [Value.ownBlock] at hk⟩, h1, ExtB.of_ext e⟩
 ·rintro G ys u ⟨-, -, h⟩; exact h
 ·rintro G ys u ⟨-, h, -⟩ k hk; exact (h k hk).1
 ·rintro G ys u u' ⟨⟨y, h2, ho, hn⟩, h1, e1⟩ e2
  exact ⟨⟨y, h2.ext e2 (fun h => by rcases h with h | h | h; omega; omega; have := h1 _ h; omega), ownsRow_ext ho e2 (fun k hk h => by have := ownsRow_ge ho hk; have := hn k hk; rcases h with h | h | h; omega; omega; exact this h), hn⟩, fun k hk => by have := e2.size; have := h1 k hk; omega, e1.write e2 (by intro k hk hlt; rcases hk with h | h | h; omega; omega; have := h1 _ h; omega)⟩
 ·rintro G ys x zs u lp hx ⟨⟨y, h2, ho, hn⟩, hit, e1⟩ hL hs
  have hlen := congrArg List.length hx
  simp only [List.length_append, List.length_cons] at hlen
  have hLl := lt_of_get hL.l
  obtain ⟨dy, cy, rfl⟩ := isSl_slice (isSl_own ho)
  simp only [parEnv]
  refine g1 (cs := x.cells) fun B5 u2 XA G5 Z5 => ?_
  refine RunE.beginR (hL.up XA) hs (by omega) fun u3 t3 hL3 => ?_
  have sA := XA.size
  have sT := t3.size
  have Y2 := (h2.up XA).ext t3 (by omega)
  have Y5 := Z5.ext t3 (by omega)
  have hO := ownsRow_ext (ownsRow_ext ho XA (fun _ _ h => h)) t3 (fun k hk h => by have := ownsRow_ge ho hk; omega)
  have XB : ExtB (fun k => k = B4) w4 u3 := (e1.trans (ExtB.of_ext XA)).write t3 (by intro k hk hlt; omega)
  have hk3 : ∀ it, G it → u3.heap[it]? = u.heap[it]? := fun it hg => (t3.block it (by have := hit it hg; omega) (by have := hit it hg; omega)).trans (XA.block it (hit it hg).2 id)
  clear h2 ho Z5 XA t3 hL e1
  refine g ?_
  refine ap1 encI x.for_ hO (ExtB.refl _ _) (by omega) (by omega) rfl rfl rfl rfl rfl rfl rfl rfl rfl rfl (fun _ => rfl) rfl (fun _ => rfl) fun q1 y' u5 O5 E5 hown => ?_
  obtain ⟨b5, c5, rfl⟩ := isSl_slice (isSl_own O5)
  have hne : ∀ k, (Value.slice dy ys.length cy).ownBlock = some k → w4.heap.size + 2 ≤ k := fun k hk => ownsRow_ge hO hk
  have s5 := E5.size
  have hs3 : ∀ it, G it → it < u3.heap.size := fun it hg => by have := hit it hg; omega
  have hk5 : ∀ it, G it → u5.heap[it]? = u.heap[it]? := fun it hg => (E5.block it (hs3 it hg) (fun h => hn it h hg)).trans (hk3 it hg)
  replace Y2 := Y2.ext E5 (fun h => by have := hne _ h; omega)
  replace hL3 := hL3.ext E5 (fun h => by have := hne _ h; omega) (fun h => by have := hne _ h; omega)
  replace XB : ExtB (fun k => k = B4) w4 u5 := XB.write E5 (by intro k hk hlt; have := hne k hk; omega)
  refine g ?_
  refine RunL.store Tryz.tOk rfl rfl rfl rfl rfl Y2 rfl rfl fun u6 t6 => ?_
  have Y6 : Blk u6 B4 [.slice b5 (ys.length + 1) c5] 31 := t6.at_
  have T6 : ExtB (fun k => k = B4) u5 u6 := t6.ext
  have s6 := T6.size
  refine g ?_
  refine RunE.endR ⟨⟨⟨_, Y6, ?_, fun k hk e => hn _ (hown _ hk (hs3 k e)) e⟩, fun k hk => ⟨(hit k hk).1, by have := hit k hk; omega⟩, XB.trans T6⟩, fun it hg => (T6.block it (by have := hit it hg; omega) (by have := hit it hg; omega)).trans (hk5 it hg)⟩ (hL3.ext T6 (by omega) (by omega))
  rw [List.length_append, List.map_append, flat_append]
  exact ownsRow_ext O5 T6 (fun k hk h => by have := ownsRow_ge O5 hk; have h : k = B4 := h; omega)
 ·rintro G ys w5 rfl ⟨⟨y, h2, ho, hn⟩, hit, e1⟩ hD
  have X5 : Ext w w5 := X4.write e1 (by intro k hk hlt; omega)
  have hO : OwnI w5 (w4.heap.size + 2) y ((goodsP c p).map Av.for_) := by
   show World.ownsRow _ _ _ _ _ ((goodsP c p).map Av.for_).length _
   rw [List.length_map]; exact ho
  have hml : ((goodsP c p).map Av.for_).length ≤ 24 := by rw [List.length_map]; exact hgl
  unfold peopleP
  generalize (goodsP c p).map Av.for_ = L at hO hml ⊢
  clear ho
  obtain ⟨dy, cy, rfl⟩ := isSl_slice (isSl_own hO)
  have hD5 := lt_of_get hD
  refine g ?_
  refine gc (srtO_ok L _ _ w5 (by omega) hO) ?_
  rintro _ w6 ⟨h6, E6⟩
  have Y6 := h2.ext E6 (by omega)
  have X6 : Ext w w6 := X5.write E6 (by intro k hk hlt; have hk : w4.heap.size + 2 ≤ k := hk; have := X4.size; omega)
  have hD6 := obj_ext hD E6 (by omega)
  have hsl := srtI_len L
  generalize srtI L = L' at h6 hsl ⊢
  rw [← hsl] at Y6
  have h6' : OwnI w6 (w4.heap.size + 2) (.slice dy L'.length cy) L' := by rw [hsl]; exact h6
  refine g ?_
  refine gc (compact_ok L' _ _ w6 (by omega) h6') ?_
  rintro r w7 ⟨h7, E7⟩
  have Y7 := Y6.ext E7 (by omega)
  have X7 : Ext w w7 := X6.write E7 (by intro k hk hlt; have hk : w4.heap.size + 2 ≤ k := hk; have := X4.size; omega)
  have hD7 := obj_ext hD6 E7 (by omega)
  obtain ⟨dr, cr, rfl⟩ := isSl_slice (isSl_own h7)
  refine g ?_
  refine RunL.store Tryz.tOk rfl rfl rfl rfl rfl Y7 rfl rfl fun w8 t8 => ?_
  have Y8 : Blk w8 B4 [.slice dr (Go.Lib.compact L').length cr] 31 := t8.at_
  have T8 : ExtB (fun k => k = B4) w7 w8 := t8.ext
  have X8 : Ext w w8 := X7.write T8 (by intro k hk hlt; have hk : k = B4 := hk; omega)
  have h8 := ownsRow_ext h7 T8 (fun k hk h => by have := ownsRow_ge h7 hk; have h : k = B4 := h; omega)
  refine g ?_
  refine RunE.retFn1 hf_ (obj_ext hD7 T8 (by omega)) fun w9 t9 => ?_
  exact ⟨_, .cell rfl (Loads.scalar Tryz.tOk rfl rfl ((Y8.ext t9.ext (by omega)).cell (i := 0) rfl)) .nil, ownsRow_base (ownsRow_ext h8 t9.ext (fun k hk h => by have := ownsRow_ge h8 hk; omega)) (by have := X4.size; omega), X8.write t9.ext (by intro k hk hlt; omega)⟩
end Go.Sg
end
