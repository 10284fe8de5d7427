/- Parts of this project: Doc0, Doc1, Doc2, Doc3, Doc4, Doc5, DocP, Doc6, Doc7, DocQ, Doc8, DocR, Doc9, DocS. -/
import Derived.Test.YtlchncheagigpaaGreatDoorTu02
import Derived.Test.YtlchncheagigpaaGreatDoorTu03
import Derived.Test.YtlchncheagigpaaGreatDoorTu04
import Derived.Test.YtlchncheagigpaaGreatDoorTu09
import Derived.Shelf.SlSortCmp.Insertion1
set_option maxHeartbeats 32000000
set_option linter.unusedSimpArgs false
set_option linter.unusedVariables false
set_option linter.unusedSectionVars false
section
set_option maxRecDepth 4000
namespace Go.Doc
open Go.Best Go.Rn
structure Dc where
 no : Int
 at_ : Int
 kind : Int
 value : Int
 from_ : Int
 until_ : Int
 parties : List Int
 revokes : List Int
 needs : List Int
def incL (lim : Int) (l : List Int) : Bool := good (fun n : Int => n) (fun n => decide (n < lim)) (-1) l && decide (l.length ≤ 16)
def numD (d : Dc) : Prop := 0 ≤ d.no ∧ d.no < 4096 ∧ 0 ≤ d.at_ ∧ d.at_ < 1099511627776 ∧ 0 ≤ d.kind ∧ d.kind < 16 ∧ 0 ≤ d.value ∧ d.value ≤ 1099511627776 ∧ 0 ≤ d.from_ ∧ d.from_ < d.until_ ∧ d.until_ ≤ 1099511627776
instance iDoc0_1 (d : Dc) : Decidable (numD d) := by unfold numD; infer_instance
def rightDc (d : Dc) : Bool := decide (numD d) && (incL 1048577 d.parties && (incL d.no d.revokes && incL d.no d.needs))
def atL (l : List Dc) : Nat → List (Int × Int)
 | 0 => []
 | n + 1 => match l[n]? with
  | some d => setM d.no (n : Int) (atL l n)
  | none => atL l n
def hasN (m : List (Int × Int)) (n : Int) : Bool := (getM n m).isSome
def hasD (m : List (Int × Int)) (d : Dc) : Bool := (!d.revokes.any fun n => !hasN m n) && !d.needs.any fun n => !hasN m n
def okD (l : List Dc) (d : Dc) : Bool := rightDc d && hasD (atL l l.length) d
def chkDoc (l : List Dc) : Int := chk Dc.no (okD l) 4096 170 l
end Go.Doc
end
section
set_option maxRecDepth 4000
namespace Go.Doc
open Go.Rn Go.Rec
structure Dk where
  d : Dc
  tx : Nat → UInt8
  pa : Option Addr
  pc : Nat
  ra : Option Addr
  rc : Nat
  na : Option Addr
  nc : Nat
def Dk.pv (x : Dk) : Value := .slice x.pa x.d.parties.length x.pc
def Dk.rv (x : Dk) : Value := .slice x.ra x.d.revokes.length x.rc
def Dk.cells (x : Dk) : List Value := [.int .i64 x.d.no, .int .i64 x.d.at_, .int .i64 x.d.kind, .int .i64 x.d.value, .int .i64 x.d.from_, .int .i64 x.d.until_, .slice x.pa x.d.parties.length x.pc, .slice x.ra x.d.revokes.length x.rc, .slice x.na x.d.needs.length x.nc] ++ (List.range 32).map fun i => .int .u8 ((x.tx i).toNat : Int)
theorem encDk : EncOk Dk.cells 41 := ⟨fun _ => rfl, fun _ => rfl, by decide⟩
abbrev dkV (x : Dk) : Value := .agg x.cells.toArray
structure HoldD (w : World) (x : Dk) : Prop where
  p : IsL w Go.Sg.intC 1 (.slice x.pa x.d.parties.length x.pc) x.d.parties
  r : IsL w Go.Sg.intC 1 (.slice x.ra x.d.revokes.length x.rc) x.d.revokes
  n : IsL w Go.Sg.intC 1 (.slice x.na x.d.needs.length x.nc) x.d.needs
  pl : x.d.parties.length ≤ 100000
  rl : x.d.revokes.length ≤ 100000
  nl : x.d.needs.length ≤ 100000
theorem HoldD.up {w w' : World} {x : Dk} (h : HoldD w x) (e : Ext w w') : HoldD w' x := ⟨h.p.up e, h.r.up e, h.n.up e, h.pl, h.rl, h.nl⟩
end Go.Doc
namespace Go.Sg
open Go.Rn Go.Proofs Go.Doc Go.Rec Go.Best
attribute [local irreducible] Go.Rn.RetsX Go.Rn.RunLN Go.Rn.AsyN Go.Rn.RunL Go.Rn.RunE Go.Rn.Asy Go.Rn.OpV Go.Rn.OpE Go.Rn.ExecE
abbrev kvD : Int → Value := Value.int .i64
instance iDoc1_1 : MapA 140 kvD kvD 0 := ⟨⟨_, _, Tryz.underlying140, keyOk_int Tryz.underlying3, by kernel_rfl⟩⟩
instance iDoc1_2 (n : Int) : Pf 37 [.int .i64 n] (.bool (decide (0 ≤ n ∧ n < 1099511627776))) := ⟨fun w => by
  refine en Tryz.func37 9 fun hf_ => ?_
  repeat' (first | refine gn (fun h_ => ?_) (fun h_ => ?_) | fail)
  all_goals
    refine rt ?_
    exact ⟨congrArg Value.bool clB, rfl⟩⟩
theorem dlist_ok (l : List Int) (v : Value) (lim : Int) (w : World) (hl : l.length ≤ 100000) (hv : IsL w intC 1 v l) : Rets Tryz.prog 114 [v, .int .i64 lim] w fun r w' => r = .bool (incL lim l) ∧ Ext w w' := by
  obtain ⟨d, cp, rfl⟩ := isSl_slice hv
  unfold incL
  refine en Tryz.func114 27 fun hf_ => ?_
  refine g ?_
  refine rangeL hv encI 8 9 10 (fun last : Int => [(0, .slice d l.length cp), (1, .int .i64 lim), (5, .int .i64 last)]) (fun i last w' => good (fun n : Int => n) (fun n => decide (n < lim)) (-1) l = good (fun n : Int => n) (fun n => decide (n < lim)) last (l.drop i) ∧ Ext w w') (-1) sb_ ⟨rfl, ExtB.refl _ _⟩ ?_ ?_
  · rintro i last x w1 hx ⟨h1, X⟩ b o cap hve hrx hlt again
    cases hve
    have hd : l.drop i = x :: l.drop (i + 1) := by
      obtain ⟨hi, e⟩ := List.getElem?_eq_some_iff.1 hx
      rw [List.drop_eq_getElem_cons hi, e]
    rw [hd] at h1
    simp only [good] at h1
    by_cases c1 : last < x
    · by_cases c2 : x < lim
      · rw [decide_eq_true c1, decide_eq_true c2, Bool.true_and, Bool.true_and] at h1
        refine g ?_
        exact RunE.weaken sb_ (again x w1 ⟨h1, X⟩)
      · rw [decide_eq_false c2, Bool.false_and, Bool.false_and] at h1
        refine rt ?_
        exact ⟨by rw [h1]; rfl, X⟩
    · rw [decide_eq_false c1, Bool.and_false, Bool.false_and] at h1
      refine rt ?_
      exact ⟨by rw [h1]; rfl, X⟩
  · rintro last w1 ⟨h1, X⟩
    rw [List.drop_length] at h1
    refine rt ?_
    exact ⟨by rw [h1]; simp [good, oneOr]; omega, X⟩
theorem dright_ok (x : Dk) (w : World) (h : HoldD w x) : Rets Tryz.prog 71 [dkV x] w fun r w' => r = .bool (rightDc x.d) ∧ Ext w w' := by
  unfold rightDc
  refine en Tryz.func71 74 fun hf_ => ?_
  by_cases hn : numD x.d
  · rw [decide_eq_true hn, Bool.true_and]
    obtain ⟨n1, n2, n3, n4, n5, n6, n7, n8, n9, m1, m2⟩ := hn
    refine g1 (cs := x.cells) fun B w1 E1 G1 Z => ?_
    refine g ?_
    refine gc (dlist_ok x.d.parties _ 1048577 w1 h.pl (h.p.up E1)) ?_
    rintro _ w2 ⟨rfl, E2⟩
    cases incL 1048577 x.d.parties with
    | false =>
      refine rt ?_
      exact ⟨rfl, xt⟩
    | true =>
    refine gc (dlist_ok x.d.revokes _ x.d.no w2 h.rl (h.r.up xt)) ?_
    rintro _ w3 ⟨rfl, E3⟩
    cases incL x.d.no x.d.revokes with
    | false =>
      refine rt ?_
      exact ⟨rfl, xt⟩
    | true =>
    refine gc (dlist_ok x.d.needs _ x.d.no w3 h.nl (h.n.up xt)) ?_
    rintro _ w4 ⟨rfl, E4⟩
    refine rt ?_
    exact ⟨rfl, xt⟩
  · rw [decide_eq_false hn, Bool.false_and]
    refine g1 (cs := x.cells) fun B w1 E1 G1 Z => ?_
    unfold numD at hn
    repeat' (first | refine gn (fun h_ => ?_) (fun h_ => ?_) | fail)
    all_goals first
      | (exfalso; simp only [decide_eq_true_eq, gt_iff_lt, ge_iff_le] at *; exact hn (by omega))
      | (refine rt ?_
         exact ⟨rfl, xt⟩)
theorem shelf_ok (ds : List Dk) (v : Value) (w : World) (hl : ds.length ≤ 100000) (hv : IsL w Dk.cells 41 v ds) : Rets Tryz.prog 70 [v] w fun r w' => (∃ R, r = .agg #[v, .map (some R)] ∧ w.heap.size ≤ R ∧ MapW w' R kvD kvD (atL (ds.map Dk.d) ds.length)) ∧ Ext w w' := by
  obtain ⟨d, cp, rfl⟩ := isSl_slice hv
  refine en Tryz.func70 23 fun hf_ => ?_
  refine g1 (cs := [.slice none 0 0, .map none]) fun B2 w1 E1 G1 Z2 => ?_
  refine g ?_
  refine RunL.ex rfl rfl rfl (mm kvD kvD) ?_
  rintro _ w2 ⟨R, rfl, gR, E2, M⟩
  refine g1 (cs := [.slice d ds.length cp, .map (some R)]) fun B3 w3 E3 G3 Z3 => ?_
  refine g ?_
  have s1 := E1.size
  have s2 := E2.size
  have lR := M.lt
  have l2 := Z2.lt
  have X3 : Ext w w3 := xt
  refine rangeL hv encDk 9 10 11 (fun _ : Unit => [(2, .pointer (some ⟨B2, 0, none⟩)), (3, .pointer (some ⟨B3, 0, none⟩))]) (fun i _ w' => ExtB (· = R) w3 w' ∧ MapW w' R kvD kvD (atL (ds.map Dk.d) i)) () sb_ ⟨ExtB.refl _ _, M.up E3⟩ ?_ ?_
  · rintro i ⟨⟩ x w4 hx ⟨X4, M4⟩ b o cap hve hrx hlt again
    cases hve
    have hat : atL (ds.map Dk.d) (i + 1) = setM x.d.no (i : Int) (atL (ds.map Dk.d) i) := by
      show (match (ds.map Dk.d)[i]? with | some d => _ | none => _) = _
      rw [List.getElem?_map, hx]; rfl
    rw [hat] at again
    have X : Ext w w4 := X3.write X4 (by intro k hk hlt; omega)
    have U3 := Z3.ext X4 (by omega)
    refine g1 (cs := x.cells) fun B5 w5 E5 G5 Z5 => ?_
    refine g ?_
    refine RunL.exN rfl rfl (ms rfl rfl rfl M4 xt inferInstance inferInstance (u := (i : Int)) rfl) ?_
    rintro _ w6 ⟨M6, E6, -⟩
    refine g ?_
    exact RunE.weaken sb_ (again () w6 ⟨(X4.trans (ExtB.of_ext (xt : Ext w4 w5))).trans E6, M6⟩)
  · rintro ⟨⟩ w4 ⟨X4, M4⟩
    have U3 := Z3.ext X4 (by omega)
    have U2 := (Z2.up (E2.trans E3)).ext X4 (by omega)
    have X : Ext w w4 := X3.write X4 (by intro k hk hlt; omega)
    refine g ?_
    refine RunL.storeW (vs := [.slice d ds.length cp, .map (some R)]) Tryz.tOk rfl rfl rfl rfl rfl U2 rfl rfl fun w5 t5 => ?_
    refine g ?_
    have U2 : Blk w5 B2 [.slice d ds.length cp, .map (some R)] 142 := t5.at_
    refine RunE.retFn hf_ (.cell rfl (Loads.agg Tryz.tOk rfl rfl rfl U2.row) .nil) ⟨⟨R, rfl, by omega, M4.ext t5.ext (by omega)⟩, X.write t5.ext (by intro k hk hlt; omega)⟩
theorem gone_ok (v : Value) (R b2 : Nat) (m : List (Int × Int)) (n : Int) (w : World) (Y2 : Blk w b2 [v, .map (some R)] 142) (M : MapW w R kvD kvD m) : Rets Tryz.prog 115 [.int .i64 n, .pointer (some ⟨b2, 0, none⟩)] w fun r w' => r = .bool (!hasN m n) ∧ w = w' := by
  unfold hasN
  refine en Tryz.func115 15 fun hf_ => ?_
  cases hg : getM n m with
  | none =>
    refine rt ?_
    exact ⟨rfl, rfl⟩
  | some k =>
    refine rt ?_
    exact ⟨rfl, rfl⟩
theorem dhas_ok (v : Value) (R : Nat) (m : List (Int × Int)) (x : Dk) (d : Option Addr) (n c : Nat) (w : World) (hv : v = .slice d n c) (M : MapW w R kvD kvD m) (h : HoldD w x) : Rets Tryz.prog 72 [.agg #[v, .map (some R)], dkV x] w fun r w' => r = .bool (hasD m x.d) ∧ Ext w w' := by
  subst hv
  unfold hasD
  refine en Tryz.func72 19 fun hf_ => ?_
  refine g1 (cs := [.slice d n c, .map (some R)]) fun B2 w1 E1 G1 Z2 => ?_
  refine g1 (cs := x.cells) fun B3 w2 E2 G2 Z3 => ?_
  have hf : ∀ (y : Int) (w' : World), Ext w2 w' → FnV Tryz.prog (.func (.func 115) #[] #[.pointer (some ⟨B2, 0, none⟩)]) [.int .i64 y] w' (fun r w'' => r = .bool (!hasN m y) ∧ Ext w' w'') fun _ _ => False := fun y w' e =>
    RetsX.v (fi := []) (args := [.int .i64 y]) (ca := [.pointer (some ⟨B2, 0, none⟩)]) ((gone_ok _ R B2 m y w' (Z2.up (E2.trans e)) (M.up ((E1.trans E2).trans e))).mono fun _ _ h => ⟨h.1, by rw [h.2]; exact ExtB.refl _ _⟩)
  refine g ?_
  refine gc (icon_ok x.d.revokes (fun n => !hasN m n) _ _ w2 h.rl (h.r.up xt) (fun y _ w' e => hf y w' e)) ?_
  rintro _ w3 ⟨rfl, E3⟩
  cases x.d.revokes.any fun n => !hasN m n with
  | true =>
    refine rt ?_
    exact ⟨rfl, xt⟩
  | false =>
    refine gc (icon_ok x.d.needs (fun n => !hasN m n) _ _ w3 h.nl (h.n.up xt) (fun y _ w' e => hf y w' (E3.trans e))) ?_
    rintro _ w4 ⟨rfl, E4⟩
    refine rt ?_
    exact ⟨rfl, xt⟩
end Go.Sg
end
section
set_option maxRecDepth 4000
namespace Go.Sg
open Go.Rn Go.Proofs Go.Doc Go.Rec Go.Best
attribute [local irreducible] Go.Rn.RetsX Go.Rn.RunLN Go.Rn.AsyN Go.Rn.RunL Go.Rn.RunE Go.Rn.Asy Go.Rn.OpV Go.Rn.OpE Go.Rn.ExecE
def lastNo (l : List Dc) : Nat → Int
 | 0 => -1
 | n + 1 => match l[n]? with
  | some d => d.no
  | none => -1
theorem doccheck_ok (ds : List Dk) (v : Value) (w : World) (hv : IsL w Dk.cells 41 v ds) (hh : ∀ x ∈ ds, HoldD w x) : Rets Tryz.prog 34 [v] w fun r w' => r = .int .i64 (chkDoc (ds.map Dk.d)) ∧ Ext w w' := by
 obtain ⟨d, cp, rfl⟩ := isSl_slice hv
 refine en Tryz.func34 43 fun hf_ => ?_
 refine gs (fun h => ?_) (fun h => ?_)
 ·refine rt ?_
  exact ⟨by rw [oneOr]; unfold chkDoc Best.chk; rw [if_pos (by rw [List.length_map]; simp at h; omega)], xt⟩
 have hle : ¬ 4096 < (ds.map Dk.d).length := by rw [List.length_map]; simp at h; omega
 have hl : ds.length ≤ 4096 := by simp at h; omega
 clear h
 refine gc (shelf_ok ds _ w (by omega) hv) ?_
 rintro _ w1 ⟨⟨R, rfl, gR, M⟩, E1⟩
 refine g1 (cs := [.slice d ds.length cp, .map (some R)]) fun B3 w2 E2 G2 Z3 => ?_
 have bad : good Dc.no (okD (ds.map Dk.d)) (-1) (ds.map Dk.d) = false → Value.int .i64 170 = .int .i64 (chkDoc (ds.map Dk.d)) := fun h => by
  unfold chkDoc Best.chk; rw [if_neg hle, if_neg (by rw [h]; simp)]
 have ok : good Dc.no (okD (ds.map Dk.d)) (-1) (ds.map Dk.d) = true → Value.int .i64 0 = .int .i64 (chkDoc (ds.map Dk.d)) := fun h => by
  unfold chkDoc Best.chk; rw [if_neg hle, if_pos h]
 have hM : atL (ds.map Dk.d) ds.length = atL (ds.map Dk.d) (ds.map Dk.d).length := by rw [List.length_map]
 rw [hM] at M
 have hok : ∀ x, okD (ds.map Dk.d) x = (rightDc x && hasD (atL (ds.map Dk.d) (ds.map Dk.d).length) x) := fun x => rfl
 refine g ?_
 refine rangeL hv encDk 11 12 13 (fun _ : Unit => [(0, .slice d ds.length cp), (3, .pointer (some ⟨B3, 0, none⟩))]) (fun i _ w' => good Dc.no (okD (ds.map Dk.d)) (-1) (ds.map Dk.d) = good Dc.no (okD (ds.map Dk.d)) (lastNo (ds.map Dk.d) i) ((ds.map Dk.d).drop i) ∧ Ext w2 w') () sb_ ⟨rfl, ExtB.refl _ _⟩ ?_ ?_
 ·rintro i ⟨⟩ x w4 hx ⟨h1, X4⟩ b o cap hve hrx hlt again
  cases hve
  have hxd : (ds.map Dk.d)[i]? = some x.d := by rw [List.getElem?_map, hx]; rfl
  have hd : (ds.map Dk.d).drop i = x.d :: (ds.map Dk.d).drop (i + 1) := by
   obtain ⟨hi, e⟩ := List.getElem?_eq_some_iff.1 hxd
   rw [List.drop_eq_getElem_cons hi, e]
  have hlast : lastNo (ds.map Dk.d) (i + 1) = x.d.no := by simp only [lastNo, hxd]
  rw [hd] at h1
  simp only [good] at h1
  rw [hlast] at again
  have hxh := hh x (List.mem_of_getElem? hx)
  have X : Ext w w4 := (E1.trans E2).trans X4
  have X2 : Ext w1 w4 := E2.trans X4
  have nxt : okD (ds.map Dk.d) x.d = true → lastNo (ds.map Dk.d) i < x.d.no → ∀ w5, Ext w4 w5 → _ := fun a1 a2 w5 e => again () w5 ⟨by rw [h1, a1, decide_eq_true a2, Bool.true_and, Bool.true_and], X4.trans e⟩
  have bad1 : okD (ds.map Dk.d) x.d = false ∨ ¬ lastNo (ds.map Dk.d) i < x.d.no → Value.int .i64 170 = .int .i64 (chkDoc (ds.map Dk.d)) := fun h => bad (by
   rw [h1]
   rcases h with h | h
   ·rw [h, Bool.false_and, Bool.false_and]
   ·rw [decide_eq_false h, Bool.and_false, Bool.false_and])
  rw [hok] at nxt bad1
  clear h1 again hd
  cases hr : rightDc x.d with
  | false =>
   refine g1 (cs := x.cells) fun B5 w5 E5 G5 Z5 => ?_
   refine g ?_
   refine RunE.draw (fun _ => False) mix' ?_
   intro wd Xd
   refine ga ?_
   refine Asy.callN rfl rfl rfl (fun w' X_ => dright_ok x w' (hxh.up ((X.trans (E5.trans Xd)).trans X_))) ?_
   rw [hr]
   refine ga ?_
   refine Asy.end_ (by decide +kernel) ?_
   intro we Xe
   refine rt ?_
   exact ⟨bad1 (.inl (by rw [hr]; rfl)), xt⟩
  | true =>
   have hnum : numD x.d := of_decide_eq_true (by have := hr; unfold rightDc at this; rw [Bool.and_eq_true] at this; exact this.1)
   have h0 := hnum.1
   cases i with
   | zero =>
    have hlt0 : lastNo (ds.map Dk.d) 0 < x.d.no := by show (-1 : Int) < _; omega
    cases hs : hasD (atL (ds.map Dk.d) (ds.map Dk.d).length) x.d with
    | false =>
     refine g1 (cs := x.cells) fun B5 w5 E5 G5 Z5 => ?_
     refine g ?_
     refine RunE.draw (fun _ => False) mix' ?_
     intro wd Xd
     refine ga ?_
     refine Asy.callN rfl rfl rfl (fun w' X_ => dright_ok x w' (hxh.up ((X.trans (E5.trans Xd)).trans X_))) ?_
     rw [hr]
     refine ga ?_
     refine Asy.callN rfl rfl rfl (fun w' X_ => dhas_ok _ R _ x _ ds.length cp w' rfl (M.up (((X2.trans E5).trans Xd).trans X_)) (hxh.up ((X.trans (E5.trans Xd)).trans X_))) ?_
     rw [hs]
     refine ga ?_
     refine Asy.end_ (by decide +kernel) ?_
     intro we Xe
     refine rt ?_
     exact ⟨bad1 (.inl (by rw [hr, hs]; rfl)), xt⟩
    | true =>
     refine g1 (cs := x.cells) fun B5 w5 E5 G5 Z5 => ?_
     refine g ?_
     refine RunE.draw (fun _ => False) mix' ?_
     intro wd Xd
     refine ga ?_
     refine Asy.callN rfl rfl rfl (fun w' X_ => dright_ok x w' (hxh.up ((X.trans (E5.trans Xd)).trans X_))) ?_
     rw [hr]
     refine ga ?_
     refine Asy.callN rfl rfl rfl (fun w' X_ => dhas_ok _ R _ x _ ds.length cp w' rfl (M.up (((X2.trans E5).trans Xd).trans X_)) (hxh.up ((X.trans (E5.trans Xd)).trans X_))) ?_
     rw [hs]
     refine ga ?_
     refine Asy.end_ (by decide +kernel) ?_
     intro we Xe
     refine g ?_
     exact RunE.weaken sb_ (nxt (by rw [hr, hs]; rfl) hlt0 we xt)
   | succ j =>
    obtain ⟨y, hy⟩ : ∃ y, ds[j]? = some y := ⟨_, List.getElem?_eq_getElem (by omega)⟩
    have hly : lastNo (ds.map Dk.d) (j + 1) = y.d.no := by simp only [lastNo, List.getElem?_map, hy, Option.map_some]
    rw [hly] at nxt bad1
    have hry : Row w b (o + j * 41) y.cells := by
     obtain ⟨b1, o1, c1, e1, hr1, -⟩ := isL_held hv (show j < ds.length by omega)
     cases e1
     exact flat_row encDk hr1 hy
    by_cases hyx : y.d.no < x.d.no
    ·cases hs : hasD (atL (ds.map Dk.d) (ds.map Dk.d).length) x.d with
     | false =>
      refine g1 (cs := x.cells) fun B5 w5 E5 G5 Z5 => ?_
      refine g ?_
      refine RunE.draw (fun _ => False) mix' ?_
      intro wd Xd
      refine ga ?_
      refine Asy.callN rfl rfl rfl (fun w' X_ => dright_ok x w' (hxh.up ((X.trans (E5.trans Xd)).trans X_))) ?_
      rw [hr]
      refine ga ?_
      refine Asy.evV rfl rfl rfl rfl (fun _ _ => OpV.indexS Tryz.tOk j rfl rfl rfl (by omega) (by omega)) ?_
      refine ga ?_
      refine Asy.callN rfl rfl rfl (fun w' X_ => dhas_ok _ R _ x _ ds.length cp w' rfl (M.up (((X2.trans E5).trans Xd).trans X_)) (hxh.up ((X.trans (E5.trans Xd)).trans X_))) ?_
      rw [hs]
      refine ga ?_
      refine Asy.end_ (by decide +kernel) ?_
      intro we Xe
      refine rt ?_
      exact ⟨bad1 (.inl (by rw [hr, hs]; rfl)), xt⟩
     | true =>
      refine g1 (cs := x.cells) fun B5 w5 E5 G5 Z5 => ?_
      refine g ?_
      refine RunE.draw (fun _ => False) mix' ?_
      intro wd Xd
      refine ga ?_
      refine Asy.callN rfl rfl rfl (fun w' X_ => dright_ok x w' (hxh.up ((X.trans (E5.trans Xd)).trans X_))) ?_
      rw [hr]
      refine ga ?_
      refine Asy.evV rfl rfl rfl rfl (fun _ _ => OpV.indexS Tryz.tOk j rfl rfl rfl (by omega) (by omega)) ?_
      refine ga ?_
      refine Asy.callN rfl rfl rfl (fun w' X_ => dhas_ok _ R _ x _ ds.length cp w' rfl (M.up (((X2.trans E5).trans Xd).trans X_)) (hxh.up ((X.trans (E5.trans Xd)).trans X_))) ?_
      rw [hs]
      refine ga ?_
      refine Asy.end_ (by decide +kernel) ?_
      intro we Xe
      refine g ?_
      exact RunE.weaken sb_ (nxt (by rw [hr, hs]; rfl) hyx we xt)
    ·refine g1 (cs := x.cells) fun B5 w5 E5 G5 Z5 => ?_
     refine g ?_
     refine RunE.draw (fun _ => False) mix' ?_
     intro wd Xd
     refine ga ?_
     refine Asy.callN rfl rfl rfl (fun w' X_ => dright_ok x w' (hxh.up ((X.trans (E5.trans Xd)).trans X_))) ?_
     rw [hr]
     refine ga ?_
     refine Asy.evV rfl rfl rfl rfl (fun _ _ => OpV.indexS Tryz.tOk j rfl rfl rfl (by omega) (by omega)) ?_
     refine ga ?_
     refine Asy.end_ (by decide +kernel) ?_
     intro we Xe
     refine rt ?_
     exact ⟨bad1 (.inr hyx), xt⟩
 ·rintro ⟨⟩ w4 ⟨h1, X4⟩
  rw [List.drop_eq_nil_of_le (by rw [List.length_map]; exact Nat.le_refl _)] at h1
  simp only [good] at h1
  refine rt ?_
  exact ⟨ok h1, xt⟩
end Go.Sg
end
section
set_option maxRecDepth 4000
namespace Go.Doc
open Go.Rn Go.Rec
def oddS (n : Int) : Bool := decide (n ≠ -1) && !decide (0 ≤ n ∧ n < 1099511627776)
def sigsOk (n : Nat) (l : List Int) : Bool := decide (l.length = n) && !l.any oddS
end Go.Doc
namespace Go.Sg
open Go.Rn Go.Proofs Go.Doc Go.Rec Go.Best
attribute [local irreducible] Go.Rn.RetsX Go.Rn.RunLN Go.Rn.AsyN Go.Rn.RunL Go.Rn.RunE Go.Rn.Asy Go.Rn.OpV Go.Rn.OpE Go.Rn.ExecE
instance iDoc3_1 (n : Int) : Pf 74 [.int .i64 n] (.bool (oddS n)) := ⟨fun w => by
 unfold oddS
 refine en Tryz.func74 10 fun hf_ => ?_
 by_cases h : n = -1
 ·subst h
  refine rt ?_
  exact ⟨rfl, rfl⟩
 ·refine rt ?_
  exact ⟨by rw [decide_eq_true (p := n ≠ -1) h]; rfl, rfl⟩⟩
theorem sigs_ok (ds : List Dk) (v u : Value) (l : List Int) (w : World) (hl : l.length ≤ 100000) (hv : IsL w Dk.cells 41 v ds) (hu : IsL w intC 1 u l) :
  Rets Tryz.prog 36 [v, u] w fun r w' => r = .bool (sigsOk ds.length l) ∧ Ext w w' := by
 obtain ⟨d, cp, rfl⟩ := isSl_slice hv
 obtain ⟨e, cq, rfl⟩ := isSl_slice hu
 unfold sigsOk
 refine en Tryz.func36 17 fun hf_ => ?_
 by_cases h : l.length = ds.length
 ·rw [decide_eq_true h, Bool.true_and]
  refine gc (icon_ok l oddS _ _ w hl hu (fun x _ w' e => RetsX.v (fi := []) (args := [.int .i64 x]) (ca := []) ((Pf.ok (g := 74) (vs := [.int .i64 x]) (v := .bool (oddS x)) w').mono fun _ _ h => ⟨h.1, by rw [h.2]; exact ExtB.refl _ _⟩))) ?_
  rintro _ w1 ⟨rfl, E1⟩
  refine rt ?_
  exact ⟨rfl, xt⟩
 ·rw [decide_eq_false h, Bool.false_and]
  refine rt ?_
  exact ⟨rfl, xt⟩
end Go.Sg
end
section
set_option maxRecDepth 4000
namespace Go.Rn
open Go.RowKit Go.Sort Go.Proofs Go.Rec
abbrev finC {n : Nat} (i : _root_.Fin n) : List Value := [.int .i64 (i.1 : Int)]
abbrev finE {n : Nat} (i : _root_.Fin n) : Value := .int .i64 (i.1 : Int)
theorem encFi {n : Nat} : EncOk (finC (n := n)) 1 := ⟨fun _ => rfl, fun _ => rfl, by decide⟩
section
variable {n : Nat} [Inhabited (_root_.Fin n)]
theorem flatK_fin (d : Array (_root_.Fin n)) {t : Nat} (ht : t < d.size) : (flatK finC 1 d)[t]! = finE d[t]! := by
 rw [get_flatK finC 1 d t (by omega), Nat.div_one, Nat.mod_one]; rfl
theorem holds_fin {w : World} {g : Nat} {d : Array (_root_.Fin n)} (h : HoldsK finC 1 w g 0 d) : Holds finE w g 0 d := fun j hj => by
 have := h j (by rw [size_flatK]; omega)
 rw [flatK_fin d hj] at this
 exact this
theorem holds_fin' {w : World} {g : Nat} {d : Array (_root_.Fin n)} (h : Holds finE w g 0 d) : HoldsK finC 1 w g 0 d := fun j hj => by
 rw [size_flatK] at hj
 have := h j (by omega)
 rw [flatK_fin d (by omega)]
 exact this
theorem ext_sortW {w : World} {blk off m : Nat} {d : Array (_root_.Fin n)} {os : Array Obj} : ExtB (· = blk) w (sortWorld finE w blk off m d os) := by
 unfold sortWorld putRow mapBlock
 refine ⟨?_, rfl, rfl, rfl, ?_, fun i hi hn => ?_⟩
 ·show w.drawn ≤ w.drawn + m; omega
 ·show w.heap.size ≤ (w.heap.modify _ _ ++ os).size
  simp
 ·rw [get_grow (by simpa [Sort.ahead] using hi)]
  simp only [Sort.ahead]
  rw [Array.getElem?_modify, if_neg (fun h => hn h.symm)]
end
end Go.Rn
namespace Go.Sg
open Go.Rn Go.Proofs Go.Rec Go.Best Go.Sort Go.RowKit
theorem size_insInner {α : Type} [Inhabited α] (lt : α → α → Bool) (a : Nat) : ∀ (j : Nat) (d : Array α), (insInner lt a j d).size = d.size
 | 0, d => rfl
 | j + 1, d => by
  unfold insInner
  split
  ·rw [size_insInner]; exact size_swp d _ _
  ·rfl
theorem size_insOuter {α : Type} [Inhabited α] (lt : α → α → Bool) (a b i : Nat) (d : Array α) : (insOuter lt a b i d).size = d.size := by
 unfold insOuter
 split
 ·rw [size_insOuter, size_insInner]
 ·rfl
termination_by b - i
theorem insF_ok {n : Nat} [Inhabited (_root_.Fin n)] (cf : _root_.Fin n → _root_.Fin n → Int) (g : FuncId) (c : Value) (f : List (_root_.Fin n)) (v : Value) (base : Nat) (w : World) (hl : f.length ≤ 100000)
  (hO : w.ownsRow base 3 1 v f.length (flat finC f)) (hg : Body Tryz.prog g) (h0 : f.length ≠ 0)
  (hcmp : ∀ x y w', ExtB (fun k => base ≤ k) w w' → Rets Tryz.prog g [finE x, finE y, c] w' fun r w'' => r = .int .i64 (cf x y) ∧ Ext w' w'') :
  Rets Tryz.prog 184 [v, .int .i64 0, .int .i64 (f.length : Int), .func (.func g) #[] #[c]] w fun _ w' => IsL w' finC 1 v (insertionSort (ltOf cf) f.toArray 0 f.length).toList ∧ ExtB (fun k => base ≤ k) w w' := by
 rcases hO.2 with ⟨-, h0'⟩ | ⟨b, cap, cur, rfl, hbg, hb, hnc, hcm, hcs, htake⟩
 ·exact absurd h0' h0
 have hbl : b < w.heap.size := lt_of_get hb
 have hH : Holds finE w b 0 f.toArray := holds_fin (holds_of encFi (base := base) (n := f.length) (cap := cap) (e := 3) hO (by simp))
 have hc : CmpLays1 Tryz.prog g #[c] finE cf b 0 f.toArray.size w := fun m os dk _ x y => by
  refine (hcmp x y _ (ext_sortW.mono fun k _ h => by subst h; exact hbg)).2.mono fun e w' h => ?_
  cases e with
  | returned v => obtain ⟨rfl, hx⟩ := h; exact ⟨rfl, ext_grow hx⟩
  | panicked ch => exact h.elim
  | outgrown => exact h.elim
 have eg : ∀ args w, (callFunc g args).run Tryz.prog w = .ok (.enter g args) w := fun args w => run_callFunc hg args
 have hs := Any.insertionSortCmpFunc_s Tryz.insI finE cf g #[c] b 0 cap 0 f.toArray.size f.toArray f.toArray w w eg hc ⟨fun _ => rfl, hH, hbl⟩ rfl (SW.start hH) (Nat.zero_le _) (Nat.le_refl _) (by simp; omega)
 have hsz : f.toArray.size = f.length := by simp
 rw [hsz] at hs
 refine ⟨⟨_, Tryz.func184, by kernel_rfl, by kernel_rfl⟩, hs.mono ?_⟩
 rintro e w' ⟨rfl, S⟩
 have hd : (insertionSort (ltOf cf) f.toArray 0 f.length).size = f.length := by
  unfold insertionSort
  rw [size_insOuter]; simp
 have hH' := holds_fin' (S.holds hbl hH (by rw [hd]; simp))
 obtain ⟨m, os, rfl⟩ := S
 refine ⟨?_, ext_sortW.mono fun k _ h => by subst h; exact hbg⟩
 have := isL_holds (cap := cap) encFi hH' (by omega)
 rwa [hd] at this
end Go.Sg
end
section
set_option maxRecDepth 4000
namespace Go.Sg
open Go.Rn Go.Proofs Go.Rec Go.Best Go.Sort Go.RowKit
attribute [local irreducible] Go.Rn.RetsX Go.Rn.RunLN Go.Rn.AsyN Go.Rn.RunL Go.Rn.RunE Go.Rn.Asy Go.Rn.OpV Go.Rn.OpE Go.Rn.ExecE
theorem insN_ok (v f : Value) (w : World) : Rets Tryz.prog 184 [v, .int .i64 0, .int .i64 0, f] w fun _ w' => w = w' := by
 refine en Tryz.func184 53 fun hf_ => ?_
 refine g ?_
 refine RunE.loop (ι := Unit) (fun _ => [(0, v), (1, .int .i64 0), (2, .int .i64 0), (3, f), (8, .int .i64 1)]) (fun _ w' => w = w') (fun _ => 0) () sb_ rfl ?_
 rintro ⟨⟩ _ rfl again
 refine g ?_
 refine RunE.fallFn hf_ .nil ?_
 exact rfl
theorem stab_ok {n : Nat} [Inhabited (_root_.Fin n)] (cf : _root_.Fin n → _root_.Fin n → Int) (g0 : FuncId) (c : Value) (f : List (_root_.Fin n)) (v : Value) (base : Nat) (w : World) (hl : f.length ≤ 19)
  (hO : w.ownsRow base 3 1 v f.length (flat finC f)) (hg : Body Tryz.prog g0)
  (hcmp : ∀ x y w', ExtB (fun k => base ≤ k) w w' → Rets Tryz.prog g0 [finE x, finE y, c] w' fun r w'' => r = .int .i64 (cf x y) ∧ Ext w' w'') :
  Rets Tryz.prog 117 [v, .func (.func g0) #[] #[c]] w fun _ w' => IsL w' finC 1 v (insertionSort (ltOf cf) f.toArray 0 f.length).toList ∧ ExtB (fun k => base ≤ k) w w' := by
 have hsl := isSl_own hO
 have hI : Rets Tryz.prog 184 [v, .int .i64 0, .int .i64 (f.length : Int), .func (.func g0) #[] #[c]] w fun _ w' => IsL w' finC 1 v (insertionSort (ltOf cf) f.toArray 0 f.length).toList ∧ ExtB (fun k => base ≤ k) w w' := by
  by_cases h0 : f.length = 0
  ·obtain rfl := List.length_eq_zero_iff.1 h0
   refine (insN_ok v _ w).mono ?_
   rintro _ _ rfl
   refine ⟨?_, ExtB.refl _ _⟩
   have : (insertionSort (ltOf cf) ([] : List (_root_.Fin n)).toArray 0 0).toList = [] := by
    have := size_insOuter (ltOf cf) 0 0 1 ([] : List (_root_.Fin n)).toArray
    exact List.length_eq_zero_iff.1 (by rw [Array.length_toList]; exact this)
   rw [show ([] : List (_root_.Fin n)).length = 0 from rfl, this]; exact hsl
  ·exact insF_ok cf g0 c f v base w (by omega) hO hg h0 hcmp
 obtain ⟨d, cp, hv⟩ := isSl_slice hsl
 generalize (insertionSort (ltOf cf) f.toArray 0 f.length).toList = res at hI ⊢
 have hS : Rets Tryz.prog 154 [v, .int .i64 (f.length : Int), .func (.func g0) #[] #[c]] w fun _ w' => IsL w' finC 1 v res ∧ ExtB (fun k => base ≤ k) w w' := by
  refine en Tryz.func154 63 fun hf_ => ?_
  refine g ?_
  refine RunE.loop (ι := Unit) (fun _ => [(0, v), (1, .int .i64 (f.length : Int)), (2, .func (.func g0) #[] #[c]), (6, .int .i64 20), (7, .int .i64 0), (8, .int .i64 20)]) (fun _ w' => w = w') (fun _ => 0) () sb_ rfl ?_
  rintro ⟨⟩ _ rfl again
  refine g ?_
  refine gc hI ?_
  rintro _ w2 ⟨h2, E2⟩
  refine g ?_
  refine RunE.loop (ι := Unit) (fun _ => [(0, v), (1, .int .i64 (f.length : Int)), (2, .func (.func g0) #[] #[c]), (6, .int .i64 20), (7, .int .i64 0), (8, .int .i64 20)]) (fun _ w' => w2 = w') (fun _ => 0) () sb_ rfl ?_
  rintro ⟨⟩ _ rfl again
  refine g ?_
  exact RunE.fallFn hf_ .nil ⟨h2, E2⟩
 subst hv
 refine en Tryz.func117 9 fun hf_ => ?_
 refine gc hS ?_
 rintro _ w2 ⟨h2, E2⟩
 refine g ?_
 exact RunE.fallFn hf_ .nil ⟨h2, E2⟩
end Go.Sg
end
section
set_option maxRecDepth 4000
namespace Go.Doc
open Go.Rn Go.Proofs Go.Rec Go.Best Go.Sort Go.RowKit
def inS (sg : List Int) (t : Int) (i : _root_.Fin sg.length) : Bool := decide (0 ≤ sg[i.1]) && decide (sg[i.1] ≤ t)
def cmpS (sg : List Int) (x y : _root_.Fin sg.length) : Int := cmpI sg[x.1] sg[y.1]
def pickS (sg : List Int) (t : Int) : List (_root_.Fin sg.length) := (List.finRange sg.length).filter (inS sg t)
def orderS (sg : List Int) (t : Int) : List Int :=
 if h : 0 < sg.length then
  haveI : Inhabited (_root_.Fin sg.length) := ⟨⟨0, h⟩⟩
  (insertionSort (ltOf (cmpS sg)) (pickS sg t).toArray 0 (pickS sg t).length).toList.map fun i => (i.1 : Int)
 else []
end Go.Doc
end
section
set_option maxRecDepth 4000
namespace Go.Sg
open Go.Rn Go.Proofs Go.Rec Go.Best Go.Sort Go.RowKit Go.Doc
attribute [local irreducible] Go.Rn.RetsX Go.Rn.RunLN Go.Rn.AsyN Go.Rn.RunL Go.Rn.RunE Go.Rn.Asy Go.Rn.OpV Go.Rn.OpE Go.Rn.ExecE
theorem pcmp_ok (sg : List Int) (u dv mv dn lk rv : Value) (p b2 : Nat) (w : World) (x y : _root_.Fin sg.length) (hu : IsL w intC 1 u sg)
  (P : Blk w p [dv, mv, u, dn, lk, rv] 149) (Y2 : Blk w b2 [.pointer (some ⟨p, 0, none⟩)] 97) :
  Rets Tryz.prog 118 [finE x, finE y, .pointer (some ⟨b2, 0, none⟩)] w fun r w' => r = .int .i64 (cmpS sg x y) ∧ Ext w w' := by
 obtain ⟨b, o, cap, rfl, hr, hcp⟩ := isL_held hu x.2
 obtain ⟨x, hx⟩ := x
 obtain ⟨y, hy⟩ := y
 have hxr := flat_row encI hr (i := x) (x := sg[x]) (List.getElem?_eq_getElem hx)
 have hyr := flat_row encI hr (i := y) (x := sg[y]) (List.getElem?_eq_getElem hy)
 refine en Tryz.func118 21 fun hf_ => ?_
 refine gx fun w2 E2 => ?_
 refine rt ?_
 exact ⟨rfl, xt⟩
end Go.Sg
end
section
set_option maxRecDepth 4000
namespace Go.Sg
open Go.Rn Go.Proofs Go.Rec Go.Best Go.Sort Go.RowKit Go.Doc
attribute [local irreducible] Go.Rn.RetsX Go.Rn.RunLN Go.Rn.AsyN Go.Rn.RunL Go.Rn.RunE Go.Rn.Asy Go.Rn.OpV Go.Rn.OpE Go.Rn.ExecE
theorem flat_fin {n : Nat} (l : List (_root_.Fin n)) : flat finC l = flat intC (l.map fun i => (i.1 : Int)) := by
 unfold flat; rw [List.map_map]; rfl
theorem isL_fin {n : Nat} {w : World} {v : Value} {l : List (_root_.Fin n)} (h : IsL w finC 1 v l) : IsL w intC 1 v (l.map fun i => (i.1 : Int)) := by
 unfold IsL at h ⊢
 rw [← flat_fin, List.length_map]; exact h
theorem pick_len (sg : List Int) (t : Int) : (pickS sg t).length ≤ sg.length := by
 unfold Doc.pickS
 exact Nat.le_trans (List.length_filter_le _ _) (by rw [List.length_finRange]; exact Nat.le_refl _)
theorem order_len (sg : List Int) (t : Int) : (orderS sg t).length ≤ sg.length := by
 unfold orderS
 split
 ·rename_i h
  letI : Inhabited (_root_.Fin sg.length) := ⟨⟨0, h⟩⟩
  rw [List.length_map, Array.length_toList]
  refine Nat.le_trans (Nat.le_of_eq ?_) (pick_len sg t)
  unfold insertionSort
  exact (size_insOuter _ _ _ _ _).trans (by simp)
 ·simp
theorem stab0_ok (v f : Value) (d : Option Addr) (c : Nat) (w : World) (hv : v = .slice d 0 c) : Rets Tryz.prog 117 [v, f] w fun _ w' => w = w' := by
 subst hv
 generalize hv : Value.slice d 0 c = v
 have hS : Rets Tryz.prog 154 [v, .int .i64 0, f] w fun _ w' => w = w' := by
  refine en Tryz.func154 63 fun hf_ => ?_
  refine g ?_
  refine RunE.loop (ι := Unit) (fun _ => [(0, v), (1, .int .i64 0), (2, f), (6, .int .i64 20), (7, .int .i64 0), (8, .int .i64 20)]) (fun _ w' => w = w') (fun _ => 0) () sb_ rfl ?_
  rintro ⟨⟩ _ rfl again
  refine g ?_
  refine gc (insN_ok v f w) ?_
  rintro _ _ rfl
  refine g ?_
  refine RunE.loop (ι := Unit) (fun _ => [(0, v), (1, .int .i64 0), (2, f), (6, .int .i64 20), (7, .int .i64 0), (8, .int .i64 20)]) (fun _ w' => w = w') (fun _ => 0) () sb_ rfl ?_
  rintro ⟨⟩ _ rfl again
  refine g ?_
  exact RunE.fallFn hf_ .nil rfl
 subst hv
 refine en Tryz.func117 9 fun hf_ => ?_
 refine gc hS ?_
 rintro _ _ rfl
 refine g ?_
 exact RunE.fallFn hf_ .nil rfl
theorem psort_ok (sg : List Int) (t : Int) (u dv mv dn lk rv : Value) (p b2 : Nat) (v : Value) (base : Nat) (w : World) (hn : sg.length ≤ 19) (hu : IsL w intC 1 u sg) (hub : sg ≠ [] → ∀ k, u.ownBlock = some k → k < base)
  (P : Blk w p [dv, mv, u, dn, lk, rv] 149) (Y2 : Blk w b2 [.pointer (some ⟨p, 0, none⟩)] 97) (hp : p < base) (hb2 : b2 < base)
  (hO : w.ownsRow base 3 1 v (pickS sg t).length (flat finC (pickS sg t))) :
  Rets Tryz.prog 117 [v, .func (.func 118) #[] #[.pointer (some ⟨b2, 0, none⟩)]] w fun _ w' => IsL w' intC 1 v (orderS sg t) ∧ ExtB (fun k => base ≤ k) w w' := by
 by_cases h : 0 < sg.length
 ·letI : Inhabited (_root_.Fin sg.length) := ⟨⟨0, h⟩⟩
  have hpl := pick_len sg t
  refine (stab_ok (cmpS sg) 118 (.pointer (some ⟨b2, 0, none⟩)) (pickS sg t) v base w (by omega) hO ⟨_, Tryz.func118, by kernel_rfl, by kernel_rfl⟩ fun x y w' e => ?_).mono ?_
  ·exact pcmp_ok sg u dv mv dn lk rv p b2 w' x y (isL_ext hu e fun hne k hk hk' => by have := hub hne k hk; have hk' : base ≤ k := hk'; omega) (P.ext e (by omega)) (Y2.ext e (by omega))
  ·rintro _ w' ⟨h1, h2⟩
   refine ⟨?_, h2⟩
   have := isL_fin h1
   unfold orderS
   rw [dif_pos h]; exact this
 ·have hnil : sg = [] := List.length_eq_zero_iff.1 (by omega)
  subst hnil
  have hpk : pickS [] t = [] := rfl
  rw [hpk] at hO
  obtain ⟨d, c, hv⟩ := isSl_slice (isSl_own hO)
  refine (stab0_ok v _ d c w hv).mono ?_
  rintro _ _ rfl
  exact ⟨by unfold orderS; rw [dif_neg (by simp)]; exact isSl_own hO, ExtB.refl _ _⟩
theorem psign_ok (sg : List Int) (u dv mv dn lk rv : Value) (p : Nat) (t : Int) (w : World) (hn : sg.length ≤ 19) (hu : IsL w intC 1 u sg) (P : Blk w p [dv, mv, u, dn, lk, rv] 149) :
  Rets Tryz.prog 75 [.pointer (some ⟨p, 0, none⟩), .int .i64 t] w fun r w' => (∃ F : Nat → Prop, Gives Tryz.prog r ((orderS sg t).map fun n => [.int .i64 n]) w' F ∧ ∀ k, F k → k < w'.heap.size ∧ w.heap.size ≤ k) ∧ Ext w w' := by
 obtain ⟨d, cp, rfl⟩ := isSl_slice hu
 refine en Tryz.func75 35 fun hf_ => ?_
 refine g1 (cs := [.pointer (some ⟨p, 0, none⟩)]) fun B2 w1 E1 G1 Z2 => ?_
 have hPl := P.lt
 have hZl := Z2.lt
 have s1 := E1.size
 have hub : sg ≠ [] → ∀ k, (Value.slice d sg.length cp).ownBlock = some k → k < w.heap.size := fun hne k hk => isL_own hu (by decide) hne hk
 refine g ?_
 refine rangeL (hu.up E1) encI 11 12 13 (fun s : Value => [(1, .int .i64 t), (2, .pointer (some ⟨B2, 0, none⟩)), (5, s)])
  (fun i s w' => w'.ownsRow w1.heap.size 3 1 s (((List.finRange sg.length).take i).filter (inS sg t)).length (flat finC (((List.finRange sg.length).take i).filter (inS sg t))) ∧ Ext w1 w') (.slice none 0 0) sb_ ⟨World.ownsRow_nil _ _ _ _, ExtB.refl _ _⟩ ?_ ?_
 ·rintro i s x w3 hx ⟨hO, X3⟩ b o cap hve hrx hlt again
  cases hve
  have hfx : (List.finRange sg.length)[i]? = some (⟨i, hlt⟩ : _root_.Fin sg.length) := by rw [List.getElem?_eq_getElem (by simpa using hlt)]; simp
  have hxe : sg[i] = x := by rw [List.getElem?_eq_getElem hlt] at hx; exact Option.some.inj hx
  obtain ⟨f1, -⟩ := filter_take (inS sg t) hfx
  have hin : inS sg t ⟨i, hlt⟩ = (decide (0 ≤ x) && decide (x ≤ t)) := by unfold inS; rw [← hxe]
  have hlen : (((List.finRange sg.length).take i).filter (inS sg t)).length ≤ sg.length := Nat.le_trans (List.length_filter_le _ _) (by rw [List.length_take]; omega)
  have skip : inS sg t ⟨i, hlt⟩ = false → _ := fun h => again s w3 ⟨by rw [f1, h]; simpa using hO, X3⟩
  by_cases c0 : 0 ≤ x
  ·by_cases c1 : x ≤ t
   ·rw [f1, hin, decide_eq_true c0, decide_eq_true c1, Bool.and_self, if_pos rfl, flat_append, List.length_append, flat_one] at again
    refine g ?_
    refine ap1 encFi (⟨i, hlt⟩ : _root_.Fin sg.length) hO (ExtB.refl _ _) X3.size (by omega) rfl rfl rfl rfl rfl rfl rfl rfl rfl rfl (fun _ => rfl) rfl (fun _ => rfl) fun q y' w4 O4 E4 _ => ?_
    refine g ?_
    exact RunE.weaken sb_ (again y' w4 ⟨O4, X3.write E4 (by intro k hk hlt'; have := ownsRow_ge hO hk; omega)⟩)
   ·refine g ?_
    exact RunE.weaken sb_ (skip (by rw [hin, decide_eq_false c1, Bool.and_false]))
  ·refine g ?_
   exact RunE.weaken sb_ (skip (by rw [hin, decide_eq_false c0, Bool.false_and]))
 ·rintro s w3 ⟨hO, X3⟩
  rw [List.take_of_length_le (by simp)] at hO
  have hO : w3.ownsRow w1.heap.size 3 1 s (pickS sg t).length (flat finC (pickS sg t)) := hO
  have X : Ext w w3 := E1.trans X3
  refine g ?_
  refine gc (psort_ok sg t _ dv mv dn lk rv p B2 s w1.heap.size w3 hn (hu.up X) (fun hne k hk => by have := hub hne k hk; omega) (P.up X) (Z2.up X3) (by omega) hZl hO) ?_
  rintro _ w4 ⟨h4, E4⟩
  have X4 : Ext w w4 := X.write E4 (by intro k hk hlt; have hk : w1.heap.size ≤ k := hk; omega)
  have hsl := isSl_own hO
  refine gc (values_ok (orderS sg t) s w4 (by have := order_len sg t; omega) h4) ?_
  rintro fv w5 ⟨⟨F, hG, hF⟩, E5⟩
  refine rt ?_
  refine ⟨⟨F, hG, fun k hk => ⟨(hF k hk).1, ?_⟩⟩, X4.trans E5⟩
  rcases (hF k hk).2 with h | ⟨-, h⟩
  ·have := X4.size; omega
  ·have := ownsRow_ge hO h; omega
end Go.Sg
end
section
set_option maxRecDepth 4000
namespace Go.Doc
open Go.Rn Go.Rec
def stD (ds : List Dc) (dn : List Bool) (lk : List Int) (rv : Int → List Int) (i : Nat) (t : Int) : Int × Int :=
 match ds[i]? with
 | none => (0, 0)
 | some d =>
  if dn.getD i false = false then (1, -1)
  else if 0 ≤ lk.getD i 0 then (4, lk.getD i 0)
  else if rv d.no ≠ [] then (5, Go.Sg.minL (rv d.no))
  else if t < d.from_ then (2, -1) else if d.until_ ≤ t then (3, -1) else (0, -1)
def needF (ds : List Dc) (m : List (Int × Int)) (dn : List Bool) (rv : Int → List Int) (t : Int) (i : Nat) (lk : List Int) (no : Int) : List Int :=
 if (stD ds dn lk rv ((getM no m).getD 0).toNat t).1 = 0 then lk else lk.set i no
def revF (no : Int) (rv : Int → List Int) (x : Int) : Int → List Int := fun n => if n = x then rv n ++ [no] else rv n
structure Sp where
 dn : List Bool
 lk : List Int
 rv : Int → List Int
def perfD (ds : List Dc) (m : List (Int × Int)) (sg : List Int) (s : Sp) (i : Nat) : Sp :=
 match ds[i]? with
 | none => s
 | some d =>
  ⟨s.dn.set i true, d.needs.reverse.foldl (needF ds m s.dn s.rv (sg.getD i 0) i) (s.lk.set i (-1)),
   if (d.needs.reverse.foldl (needF ds m s.dn s.rv (sg.getD i 0) i) (s.lk.set i (-1))).getD i 0 < 0 then d.revokes.foldl (revF d.no) s.rv else s.rv⟩
def playD (ds : List Dc) (sg : List Int) (t : Int) : Sp :=
 (orderS sg t).foldl (fun s i => perfD ds (atL ds ds.length) sg s i.toNat) ⟨List.replicate ds.length false, List.replicate ds.length 0, fun _ => []⟩
def stateD (ds : List Dc) (sg : List Int) (t : Int) (i : Nat) : Int × Int := stD ds (playD ds sg t).dn (playD ds sg t).lk (playD ds sg t).rv i t
def forceD (ds : List Dc) (sg : List Int) (t : Int) : List Int := ((List.range ds.length).filter fun i => decide ((stateD ds sg t i).1 = 0)).map fun i => (ds[i]?.map Dc.no).getD 0
theorem needF_len (ds : List Dc) (m : List (Int × Int)) (dn : List Bool) (rv : Int → List Int) (t : Int) (i : Nat) (lk : List Int) (no : Int) : (needF ds m dn rv t i lk no).length = lk.length := by
 unfold needF; split
 ·rfl
 ·rw [List.length_set]
theorem needs_len (ds : List Dc) (m : List (Int × Int)) (dn : List Bool) (rv : Int → List Int) (t : Int) (i : Nat) : ∀ (l : List Int) (lk : List Int), (l.foldl (needF ds m dn rv t i) lk).length = lk.length
 | [], _ => rfl
 | x :: l, lk => by rw [List.foldl_cons, needs_len ds m dn rv t i l, needF_len]
theorem atL_lt (l : List Dc) : ∀ (n : Nat) (k v : Int), getM k (atL l n) = some v → 0 ≤ v ∧ v < (n : Int)
 | 0, k, v, h => by simp [atL, getM] at h
 | n + 1, k, v, h => by
  unfold atL at h
  split at h
  ·rw [getM_set] at h
   split at h
   ·injection h with h; omega
   ·have := atL_lt l n k v h; omega
  ·have := atL_lt l n k v h; omega
theorem revs_len (no : Int) : ∀ (l : List Int) (rv : Int → List Int) (B : Nat), (∀ n, (rv n).length ≤ B) → ∀ n, (l.foldl (revF no) rv n).length ≤ B + l.length
 | [], rv, B, h, n => h n
 | x :: l, rv, B, h, n => by
  rw [List.foldl_cons]
  have := revs_len no l (revF no rv x) (B + 1) (fun n => by
   unfold revF; split
   ·rw [List.length_append, List.length_singleton]; have := h n; omega
   ·have := h n; omega) n
  rw [List.length_cons]; omega
end Go.Doc
end
section
set_option maxRecDepth 4000
namespace Go.Doc
open Go.Rn Go.Rec
@[reducible] def boolC (b : Bool) : List Value := [.bool b]
theorem encB : EncOk boolC 1 := ⟨fun _ => rfl, fun _ => rfl, by decide⟩
structure PMem (w : World) (base p R RR BD BL : Nat) (dv : Value) (u : Value) (n : Nat) (m : List (Int × Int)) (s : Sp) : Prop where
 pl : Blk w p [dv, .map (some R), u, .slice (some ⟨BD, 0, none⟩) n n, .slice (some ⟨BL, 0, none⟩) n n, .map (some RR)] 149
 dn : Blk w BD (flat boolC s.dn) 4
 lk : Blk w BL (flat Go.Sg.intC s.lk) 3
 rv : ∃ mr, MapW w RR Go.Sg.kvD (fun v : Value => v) mr ∧ GrpOk Go.Sg.intC 1 3 w base mr s.rv
 at_ : MapW w R Go.Sg.kvD Go.Sg.kvD m
 ldn : s.dn.length = n
 llk : s.lk.length = n
 lrv : ∀ k, (s.rv k).length ≤ 100000
theorem PMem.up {w w' : World} {base p R RR BD BL : Nat} {dv u : Value} {n : Nat} {m : List (Int × Int)} {s : Sp} (h : PMem w base p R RR BD BL dv u n m s) {S : Nat → Prop} (e : ExtB S w w') (hS : ∀ k, S k → k ≠ p ∧ k ≠ R ∧ k ≠ RR ∧ k ≠ BD ∧ k ≠ BL ∧ (base ≤ k → ∀ cs, w.heap[k]? = some (.cells cs 3 (0, 0)) → False)) : PMem w' base p R RR BD BL dv u n m s := by
 obtain ⟨h1, h2, h3, ⟨mr, h4, h5⟩, h6, h7, h8, h9⟩ := h
 exact ⟨h1.ext e fun h => (hS _ h).1 rfl, h2.ext e fun h => (hS _ h).2.2.2.1 rfl, h3.ext e fun h => (hS _ h).2.2.2.2.1 rfl, ⟨mr, h4.ext e fun h => (hS _ h).2.2.1 rfl, h5.ext e fun k cs hb hk h => (hS k h).2.2.2.2.2 hb cs hk⟩, h6.ext e fun h => (hS _ h).2.1 rfl, h7, h8, h9⟩
end Go.Doc
namespace Go.Sg
open Go.Rn Go.Proofs Go.Doc Go.Rec Go.Best
attribute [local irreducible] Go.Rn.RetsX Go.Rn.RunLN Go.Rn.AsyN Go.Rn.RunL Go.Rn.RunE Go.Rn.Asy Go.Rn.OpV Go.Rn.OpE Go.Rn.ExecE
instance iDoc8_1 : MapA 147 kvD (fun v : Value => v) nilV := ⟨⟨_, _, Tryz.underlying147, keyOk_int Tryz.underlying3, by kernel_rfl⟩⟩
theorem pstate_ok (ds : List Dk) (d : Option Addr) (cp : Nat) (u : Value) (base p R RR BD BL : Nat) (m : List (Int × Int)) (s : Sp) (i : Nat) (x : Dk) (t : Int) (w : World) (hl : ds.length ≤ 100000) (hv : IsL w Dk.cells 41 (.slice d ds.length cp) ds) (hx : ds[i]? = some x)
  (hP : PMem w base p R RR BD BL (.slice d ds.length cp) u ds.length m s) :
  Rets Tryz.prog 39 [.pointer (some ⟨p, 0, none⟩), .int .i64 (i : Int), .int .i64 t] w fun r w' => r = .tuple #[.int .i64 (stD (ds.map Dk.d) s.dn s.lk s.rv i t).1, .int .i64 (stD (ds.map Dk.d) s.dn s.lk s.rv i t).2] ∧ Ext w w' := by
 obtain ⟨h1, h2, h3, ⟨mr, h4, h5⟩, h6, h7, h8, h9⟩ := hP
 have hi : i < ds.length := (List.getElem?_eq_some_iff.1 hx).1
 obtain ⟨b, o, cap, hve, hr, hcp⟩ := isL_held hv hi
 cases hve
 have hrx := flat_row encDk hr hx
 have hxd : (ds.map Dk.d)[i]? = some x.d := by rw [List.getElem?_map, hx]; rfl
 obtain ⟨bd, hbd⟩ : ∃ bd, s.dn[i]? = some bd := ⟨_, List.getElem?_eq_getElem (by omega)⟩
 obtain ⟨bl, hbl⟩ : ∃ bl, s.lk[i]? = some bl := ⟨_, List.getElem?_eq_getElem (by omega)⟩
 have hrd : Row w BD (0 + i * 1) (boolC bd) := flat_row encB h2.row hbd
 have hrl : Row w BL (0 + i * 1) (intC bl) := flat_row encI h3.row hbl
 have e1 : s.dn.getD i false = bd := by rw [List.getD_eq_getElem?_getD, hbd]; rfl
 have e2 : s.lk.getD i 0 = bl := by rw [List.getD_eq_getElem?_getD, hbl]; rfl
 unfold stD
 rw [hxd]
 simp only
 rw [e1, e2]
 refine en Tryz.func39 70 fun hf_ => ?_
 refine g1 (cs := x.cells) fun B8 w1 E1 G1 Z8 => ?_
 cases bd with
 | false =>
  refine rt ?_
  exact ⟨rfl, xt⟩
 | true =>
  rw [if_neg (by simp)]
  by_cases c1 : 0 ≤ bl
  ·rw [if_pos c1]
   refine gx fun w2 E2 => ?_
   refine rt ?_
   exact ⟨rfl, xt⟩
  ·rw [if_neg c1]
   have hO := h5.own x.d.no
   have hLv := h9 x.d.no
   cases hg : getM x.d.no mr with
   | none =>
    have hnil : s.rv x.d.no = [] := by have := h5.get x.d.no; rw [hg] at this; exact this
    rw [hnil, if_neg (by simp)]
    by_cases c2 : t < x.d.from_
    ·rw [if_pos c2]
     refine gx fun w2 E2 => ?_
     refine rt ?_
     exact ⟨rfl, xt⟩
    ·rw [if_neg c2]
     by_cases c3 : x.d.until_ ≤ t
     ·rw [if_pos c3]
      refine gx fun w2 E2 => ?_
      refine rt ?_
      exact ⟨rfl, xt⟩
     ·rw [if_neg c3]
      refine gx fun w2 E2 => ?_
      refine rt ?_
      exact ⟨rfl, xt⟩
   | some v =>
    rw [hg] at hO
    obtain ⟨dv, cv, hvv⟩ := isSl_slice (isSl_own hO)
    have hvv : v = .slice dv (s.rv x.d.no).length cv := hvv
    subst hvv
    have hIs : IsL w intC 1 (.slice dv (s.rv x.d.no).length cv) (s.rv x.d.no) := isSl_own hO
    generalize s.rv x.d.no = rl at *
    by_cases c0 : rl = []
    ·subst c0
     rw [if_neg (by simp)]
     by_cases c2 : t < x.d.from_
     ·rw [if_pos c2]
      refine gx fun w2 E2 => ?_
      refine rt ?_
      exact ⟨rfl, xt⟩
     ·rw [if_neg c2]
      by_cases c3 : x.d.until_ ≤ t
      ·rw [if_pos c3]
       refine gx fun w2 E2 => ?_
       refine rt ?_
       exact ⟨rfl, xt⟩
      ·rw [if_neg c3]
       refine gx fun w2 E2 => ?_
       refine rt ?_
       exact ⟨rfl, xt⟩
    ·rw [if_pos c0]
     have hpos : 0 < rl.length := List.length_pos_iff.2 c0
     refine gx fun w2 E2 => ?_
     refine gc (minI_ok rl _ w2 hLv hpos (hIs.up xt)) ?_
     rintro _ _ ⟨rfl, rfl⟩
     refine rt ?_
     exact ⟨rfl, xt⟩
end Go.Sg
end
section
set_option maxRecDepth 4000
namespace Go.Doc
open Go.Rn Go.Rec
theorem HoldD.keep {S : Nat → Prop} {w w' : World} {x : Dk} (h : HoldD w x) (e : ExtB S w w') (hS : ∀ i, S i → w.heap.size ≤ i) : HoldD w' x :=
 ⟨isL_keep h.p (by decide) e hS, isL_keep h.r (by decide) e hS, isL_keep h.n (by decide) e hS, h.pl, h.rl, h.nl⟩
theorem PMem.lk' {w w' : World} {base p R RR BD BL : Nat} {dv u : Value} {n : Nat} {m : List (Int × Int)} {s : Sp} (h : PMem w base p R RR BD BL dv u n m s) (e : ExtB (fun k => k = BL) w w') {lk : List Int} (hb : Blk w' BL (flat Go.Sg.intC lk) 3) (hl : lk.length = n) (hB : BL < base) : PMem w' base p R RR BD BL dv u n m ⟨s.dn, lk, s.rv⟩ := by
 obtain ⟨h1, h2, h3, ⟨mr, h4, h5⟩, h6, h7, h8, h9⟩ := h
 have n1 := h4.ne h3
 have n2 := h6.ne h3
 exact ⟨h1.ext e fun h => by subst h; unfold Blk at h1 h3; rw [h1] at h3; simp at h3, h2.ext e fun h => by subst h; unfold Blk at h2 h3; rw [h2] at h3; simp at h3, hb, ⟨mr, h4.ext e fun h => n1 h.symm, h5.ext e fun k cs hk _ h => by omega⟩, h6.ext e fun h => n2 h.symm, h7, hl, h9⟩
theorem PMem.dn' {w w' : World} {base p R RR BD BL : Nat} {dv u : Value} {n : Nat} {m : List (Int × Int)} {s : Sp} (h : PMem w base p R RR BD BL dv u n m s) (e : ExtB (fun k => k = BD) w w') {dn : List Bool} (hb : Blk w' BD (flat boolC dn) 4) (hl : dn.length = n) (hB : BD < base) : PMem w' base p R RR BD BL dv u n m ⟨dn, s.lk, s.rv⟩ := by
 obtain ⟨h1, h2, h3, ⟨mr, h4, h5⟩, h6, h7, h8, h9⟩ := h
 have n1 := h4.ne h2
 have n2 := h6.ne h2
 exact ⟨h1.ext e fun h => by subst h; unfold Blk at h1 h2; rw [h1] at h2; simp at h2, hb, h3.ext e fun h => by subst h; unfold Blk at h2 h3; rw [h2] at h3; simp at h3, ⟨mr, h4.ext e fun h => n1 h.symm, h5.ext e fun k cs hk _ h => by omega⟩, h6.ext e fun h => n2 h.symm, hl, h8, h9⟩
theorem order_mem {sg : List Int} {t x : Int} (h : x ∈ orderS sg t) : ∃ j : Nat, x = (j : Int) ∧ j < sg.length := by
 unfold orderS at h
 split at h
 ·obtain ⟨i, -, rfl⟩ := List.mem_map.1 h
  exact ⟨i.1, rfl, i.2⟩
 ·cases h
end Go.Doc
namespace Go.Sg
open Go.Rn Go.Proofs Go.Doc Go.Rec Go.Best Go.RowKit
attribute [local irreducible] Go.Rn.RetsX Go.Rn.RunLN Go.Rn.AsyN Go.Rn.RunL Go.Rn.RunE Go.Rn.Asy Go.Rn.OpV Go.Rn.OpE Go.Rn.ExecE
theorem blk_ne {w : World} {a b : Nat} {cs cs' : List Value} {t t' : TypeId} (h : Blk w a cs t) (h' : Blk w b cs' t') (ht : t ≠ t') : a ≠ b := fun e => by
 subst e
 unfold Blk at h h'
 rw [h] at h'
 injection h' with h'; injection h' with _ h'
 exact ht h'
end Go.Sg
end
section
set_option maxRecDepth 4000
namespace Go.Doc
open Go.Rn Go.Rec
def PNew (w : World) (n0 : Nat) (dv u : Value) (n : Nat) (m : List (Int × Int)) (R RR BD BL : Nat) : Prop :=
 n0 ≤ R ∧ n0 ≤ RR ∧ n0 ≤ BD ∧ n0 ≤ BL ∧ MapW w R Go.Sg.kvD Go.Sg.kvD m ∧ MapW w RR Go.Sg.kvD (fun v : Value => v) ([] : List (Int × Value)) ∧ Blk w BD (flat boolC (List.replicate n false)) 4 ∧ Blk w BL (flat Go.Sg.intC (List.replicate n 0)) 3
theorem PNew.up {w w' : World} {n0 : Nat} {dv u : Value} {n : Nat} {m : List (Int × Int)} {R RR BD BL : Nat} (h : PNew w n0 dv u n m R RR BD BL) (e : Ext w w') : PNew w' n0 dv u n m R RR BD BL :=
 ⟨h.1, h.2.1, h.2.2.1, h.2.2.2.1, h.2.2.2.2.1.up e, h.2.2.2.2.2.1.up e, h.2.2.2.2.2.2.1.up e, h.2.2.2.2.2.2.2.up e⟩
abbrev pcells (dv u : Value) (n R RR BD BL : Nat) : List Value := [dv, .map (some R), u, .slice (some ⟨BD, 0, none⟩) n n, .slice (some ⟨BL, 0, none⟩) n n, .map (some RR)]
end Go.Doc
namespace Go.Sg
open Go.Rn Go.Proofs Go.Doc Go.Rec Go.Best
attribute [local irreducible] Go.Rn.RetsX Go.Rn.RunLN Go.Rn.AsyN Go.Rn.RunL Go.Rn.RunE Go.Rn.Asy Go.Rn.OpV Go.Rn.OpE Go.Rn.ExecE
theorem played_ok (ds : List Dk) (v u : Value) (sg : List Int) (t : Int) (w : World) (hn : sg.length ≤ 19) (hl : ds.length = sg.length) (hv : IsL w Dk.cells 41 v ds) (hu : IsL w intC 1 u sg) (hh : ∀ x ∈ ds, HoldD w x) (hr16 : ∀ x ∈ ds, x.d.revokes.length ≤ 16) :
  Rets Tryz.prog 38 [v, u, .int .i64 t] w fun r w' => (∃ base p R RR BD BL, r = .pointer (some ⟨p, 0, none⟩) ∧ PMem w' base p R RR BD BL v u ds.length (atL (ds.map Dk.d) ds.length) (playD (ds.map Dk.d) sg t)) ∧ Ext w w' := by
 obtain ⟨d, cp, rfl⟩ := isSl_slice hv
 obtain ⟨du, cq, rfl⟩ := isSl_slice hu
 refine en Tryz.func38 114 fun hf_ => ?_
 refine g1 (cs := [.slice du sg.length cq]) fun B4 w1 E1 G1 Z4 => ?_
 have hsh := fun w' (X : Ext w1 w') => shelf_ok ds (.slice d ds.length cp) w' (by omega) (hv.up (E1.trans X))
 generalize hm : atL (ds.map Dk.d) ds.length = m at hsh ⊢
 refine g ?_
 refine RunE.draw (fun _ => False) mix' ?_
 intro wd Xd
 refine ga ?_
 refine Asy.sat0 (fun a w' => ∃ R, a = .agg #[.slice d ds.length cp, .map (some R)] ∧ w1.heap.size ≤ R ∧ MapW w' R kvD kvD m) rfl rfl rfl rfl (fun a w' w'' _ e h => ?_) (fun w' e => ?_) ?_
 ·obtain ⟨R, h1, h2, h3⟩ := h; exact ⟨R, h1, h2, h3.up e⟩
 ·refine OpE.mono (OpE.call rfl (hsh w' (Xd.trans e))) ?_ fun _ _ h => h
  rintro r w'' ⟨⟨R, h1, h2, h3⟩, E⟩
  exact ⟨E, R, h1, by have := (Xd.trans e).size; omega, h3⟩
 refine ga ?_
 refine Asy.sat0 (fun a w' => ∃ BD, a = .slice (some ⟨BD, 0, none⟩) ds.length ds.length ∧ w1.heap.size ≤ BD ∧ Blk w' BD (flat boolC (List.replicate ds.length false)) 4) rfl rfl rfl rfl (fun a w' w'' _ e h => ?_) (fun w' e => ?_) ?_
 ·obtain ⟨R, h1, h2, h3⟩ := h; exact ⟨R, h1, h2, h3.up e⟩
 ·refine OpE.mono (OpE.makeX encB Tryz.tOk ds.length false rfl rfl rfl rfl rfl rfl rfl (by show 1 * _ ≤ _; omega) (by omega)) ?_ fun _ _ h => h
  rintro r w'' ⟨⟨B, h1, h2, h3⟩, E⟩
  exact ⟨E, B, h1, by have := (Xd.trans e).size; omega, h3⟩
 refine ga ?_
 refine Asy.sat0 (fun a w' => ∃ BL, a = .slice (some ⟨BL, 0, none⟩) ds.length ds.length ∧ w1.heap.size ≤ BL ∧ Blk w' BL (flat intC (List.replicate ds.length 0)) 3) rfl rfl rfl rfl (fun a w' w'' _ e h => ?_) (fun w' e => ?_) ?_
 ·obtain ⟨R, h1, h2, h3⟩ := h; exact ⟨R, h1, h2, h3.up e⟩
 ·refine OpE.mono (OpE.makeX encI Tryz.tOk ds.length 0 rfl rfl rfl rfl rfl rfl rfl (by show 8 * _ ≤ _; omega) (by omega)) ?_ fun _ _ h => h
  rintro r w'' ⟨⟨B, h1, h2, h3⟩, E⟩
  exact ⟨E, B, h1, by have := (Xd.trans e).size; omega, h3⟩
 refine ga ?_
 refine Asy.sat0 (fun a w' => ∃ RR, a = .map (some RR) ∧ w1.heap.size ≤ RR ∧ MapW w' RR kvD (fun v : Value => v) ([] : List (Int × Value))) rfl rfl rfl rfl (fun a w' w'' _ e h => ?_) (fun w' e => ?_) ?_
 ·obtain ⟨R, h1, h2, h3⟩ := h; exact ⟨R, h1, h2, h3.up e⟩
 ·refine OpE.mono (mm kvD (fun v : Value => v)) ?_ fun _ _ h => h
  rintro r w'' ⟨B, h1, h2, E, h3⟩
  exact ⟨E, B, h1, by have := (Xd.trans e).size; omega, h3⟩
 refine ga ?_
 refine Asy.satN (fun a w' => ∃ R RR BD BL, a = .agg (pcells (.slice d ds.length cp) (.slice du sg.length cq) ds.length R RR BD BL).toArray ∧ PNew w' w1.heap.size (.slice d ds.length cp) (.slice du sg.length cq) ds.length m R RR BD BL) rfl rfl rfl rfl (fun a w' w'' _ e h => ?_) (fun w' xs e hp => ?_) ?_
 ·obtain ⟨R, RR, BD, BL, h1, h2⟩ := h; exact ⟨R, RR, BD, BL, h1, h2.up e⟩
 ·obtain ⟨RR, q1, q2, q3⟩ := hp _ List.mem_cons_self rfl
  obtain ⟨BL, q4, q5, q6⟩ := hp _ (List.mem_cons_of_mem _ List.mem_cons_self) rfl
  obtain ⟨BD, q7, q8, q9⟩ := hp _ (List.mem_cons_of_mem _ (List.mem_cons_of_mem _ List.mem_cons_self)) rfl
  obtain ⟨R, q10, q11, q12⟩ := hp _ (List.mem_cons_of_mem _ (List.mem_cons_of_mem _ (List.mem_cons_of_mem _ List.mem_cons_self))) rfl
  simp only at q1 q4 q7 q10
  simp only [List.map_cons, List.map_nil, List.cons_append, List.nil_append, q1, q4, q7, q10]
  refine OpE.mono (OpV.e (OpV.evp Tryz.tOk (v := .agg (pcells (.slice d ds.length cp) (.slice du sg.length cq) ds.length R RR BD BL).toArray) rfl)) ?_ fun _ _ h => h
  rintro _ _ ⟨rfl, rfl⟩
  exact ⟨ExtB.refl _ _, R, RR, BD, BL, rfl, q11, q2, q8, q5, q12, q3, q9, q6⟩
 refine Asy.sat1 0 (fun a w' => ∃ p R RR BD BL, a = .pointer (some ⟨p, 0, none⟩) ∧ w1.heap.size ≤ p ∧ Blk w' p (pcells (.slice d ds.length cp) (.slice du sg.length cq) ds.length R RR BD BL) 149 ∧ PNew w' w1.heap.size (.slice d ds.length cp) (.slice du sg.length cq) ds.length m R RR BD BL) rfl rfl rfl rfl rfl rfl (fun a w' w'' _ e h => ?_) (fun w' x e hx => ?_) ?_
 ·obtain ⟨p, R, RR, BD, BL, h1, h2, h3, h4⟩ := h; exact ⟨p, R, RR, BD, BL, h1, h2, h3.up e, h4.up e⟩
 ·obtain ⟨R, RR, BD, BL, rfl, hP⟩ := hx
  refine OpE.mono (OpE.boxX rfl) ?_ fun _ _ h => h
  rintro _ w'' ⟨B, rfl, a⟩
  exact ⟨a.ext, B, R, RR, BD, BL, rfl, by have := a.eq; have := (Xd.trans e).size; omega, a.at_, hP.up a.ext⟩
 refine Asy.sat0 (fun a w' => ∃ B, a = .pointer (some ⟨B, 0, none⟩) ∧ w1.heap.size ≤ B ∧ Blk w' B [.pointer none] 97) rfl rfl rfl rfl (fun a w' w'' _ e h => ?_) (fun w' e => ?_) ?_
 ·obtain ⟨B, h1, h2, h3⟩ := h; exact ⟨B, h1, h2, h3.up e⟩
 ·refine OpE.mono (OpE.allocX Tryz.tOk rfl) ?_ fun _ _ h => h
  rintro _ w'' ⟨B, rfl, a⟩
  exact ⟨a.ext, B, rfl, by have := a.eq; have := (Xd.trans e).size; omega, a.at_⟩
 refine Asy.tail (by decide +kernel) fun we Xe => ?_
 simp only [satsAll]
 rintro _ ⟨B7, rfl, gB7, Z7⟩ _ ⟨p, R, RR, BD, BL, rfl, gp, Zp, gR, gRR, gBD, gBL, MR, MRR, ZD, ZL⟩ x1 - x2 - x3 - x4 - x5 -
 have W1 : Ext w1 we := Xd.trans Xe
 have n1 := MR.ne Z7
 have n2 := MRR.ne Z7
 have n3 := blk_ne Zp Z7 (by decide)
 have n4 := blk_ne ZD Z7 (by decide)
 have n5 := blk_ne ZL Z7 (by decide)
 refine RunL.store Tryz.tOk rfl rfl rfl rfl rfl Z7 rfl rfl fun w3 t3 => ?_
 have E3 : ExtB (· = B7) we w3 := t3.ext
 replace Z7 : Blk w3 B7 [.pointer (some ⟨p, 0, none⟩)] 97 := t3.at_
 replace Zp := Zp.ext E3 n3
 replace ZD := ZD.ext E3 n4
 replace ZL := ZL.ext E3 n5
 replace MR := MR.ext E3 (fun h => n1 h.symm)
 replace MRR := MRR.ext E3 (fun h => n2 h.symm)
 have W3 : Ext w1 w3 := W1.write E3 (by intro k hk hlt; have hk : k = B7 := hk; omega)
 clear t3 E3
 have X3 : Ext w w3 := E1.trans W3
 have l7 := Z7.lt
 have lp := Zp.lt
 have lD := ZD.lt
 have lL := ZL.lt
 have lR := MR.lt
 have lRR := MRR.lt
 refine g ?_
 refine gc (psign_ok sg _ (.slice d ds.length cp) (.map (some R)) _ _ _ p t w3 hn (hu.up X3) Zp) ?_
 rintro fv w4 ⟨⟨F, hG, hF⟩, E4⟩
 have s1 := E1.size
 have s3 := W3.size
 have s4 := E4.size
 have X4 : Ext w w4 := X3.trans E4
 refine g ?_
 have hS : ∀ k, (k = BD ∨ k = BL ∨ k = RR) → w1.heap.size ≤ k ∧ k < w3.heap.size ∧ k ≠ B7 ∧ k ≠ p := by
  have m1 := blk_ne Zp Z7 (by decide)
  have m2 := blk_ne ZD Z7 (by decide)
  have m3 := blk_ne ZL Z7 (by decide)
  have m4 := MRR.ne Z7
  have m5 := blk_ne ZD Zp (by decide)
  have m6 := blk_ne ZL Zp (by decide)
  have m7 := MRR.ne Zp
  rintro k (rfl | rfl | rfl)
  ·exact ⟨gBD, lD, m2, m5⟩
  ·exact ⟨gBL, lL, m3, m6⟩
  ·exact ⟨gRR, lRR, fun h => m4 h.symm, fun h => m7 h.symm⟩
 have hSw : ∀ k, (k = BD ∨ k = BL ∨ k = RR) → w.heap.size ≤ k := fun k hk => by have := (hS k hk).1; omega
 have hne0 : ∀ j x, ds[j]? = some x → R ≠ RR := fun j x hx => mapW_ne MR MRR fun h => by
  have hj : j < ds.length := (List.getElem?_eq_some_iff.1 hx).1
  rw [← hm] at h
  obtain ⟨n, hnn⟩ : ∃ n, ds.length = n + 1 := ⟨ds.length - 1, by omega⟩
  rw [hnn] at h
  unfold atL at h
  rw [List.getElem?_map, List.getElem?_eq_getElem (show n < ds.length by omega)] at h
  simp only [Option.map_some] at h
  have := congrArg (getM ds[n].d.no) h
  rw [getM_set, if_pos rfl] at this
  cases this
 obtain ⟨s0, hs0⟩ : ∃ s0 : Sp, s0 = ⟨List.replicate ds.length false, List.replicate ds.length 0, fun _ => []⟩ := ⟨_, rfl⟩
 have P0 : PMem w4 (w4.heap.size + 2) p R RR BD BL (.slice d ds.length cp) (.slice du sg.length cq) ds.length m s0 := by
  subst hs0
  exact ⟨Zp.up E4, ZD.up E4, ZL.up E4, ⟨[], MRR.up E4, GrpOk.nil _ _ fun _ => rfl⟩, MR.up E4, by simp, by simp, fun _ => by simp⟩
 have hplay : playD (ds.map Dk.d) sg t = (orderS sg t).foldl (fun s (i : Int) => perfD (ds.map Dk.d) m sg s i.toNat) s0 := by
  unfold playD; rw [List.length_map, hm, hs0]
 rw [hplay]
 have hol := order_len sg t
 have horm := fun x => @order_mem sg t x
 generalize orderS sg t = od at hG hol horm ⊢
 have hrv0 : ∀ k, s0.rv k = [] := fun k => by rw [hs0]
 have hmlt : ∀ k v, getM k m = some v → 0 ≤ v ∧ v < (ds.length : Int) := fun k v h => by rw [← hm] at h; exact atL_lt _ _ _ _ h
 clear hplay hs0 hm
 have hup : ∀ k, (k = w4.heap.size ∨ k = w4.heap.size + 1) → k ≠ p ∧ k ≠ R ∧ k ≠ RR ∧ k ≠ BD ∧ k ≠ BL ∧ k < w4.heap.size + 2 := fun k hk => ⟨by omega, by omega, by omega, by omega, by omega, by omega⟩
 refine RunE.rangeGives (w0 := w4) (F := F) rfl ⟨_, hf_⟩ rfl hG (fun k => k = BD ∨ k = BL ∨ k = RR) (fun k hk => ?_) (ExtB.refl _ _) (fun ys hx => ?_) rfl
  (fun i w' => PMem w' (w4.heap.size + 2) p R RR BD BL (.slice d ds.length cp) (.slice du sg.length cq) ds.length m ((od.take i).foldl (fun s (i : Int) => perfD (ds.map Dk.d) m sg s i.toNat) s0) ∧ (∀ k, (((od.take i).foldl (fun s (i : Int) => perfD (ds.map Dk.d) m sg s i.toNat) s0).rv k).length ≤ 16 * i) ∧ w4.heap.size + 2 ≤ w'.heap.size ∧ ExtB (fun k => k = BD ∨ k = BL ∨ k = RR) w4 w') ?_ ?_ ?_ ?_ ?_
 ·obtain ⟨h1, h2⟩ := hF k hk
  exact ⟨fun h => by have := (hS k h).2.1; omega, h1⟩
 ·obtain ⟨a, -, rfl⟩ := List.mem_map.1 hx; rfl
 ·intro w2 E hsz
  refine ⟨P0.up E fun _ h => h.elim, fun k => ?_, by omega, ExtB.of_ext E⟩
  rw [List.take_zero, List.foldl_nil, hrv0]; simp
 ·rintro i u h; exact h.2.2.2
 ·rintro i u u' ⟨h1, h2, h3, h4⟩ E
  exact ⟨h1.up E fun k hk => ⟨(hup k hk).1, (hup k hk).2.1, (hup k hk).2.2.1, (hup k hk).2.2.2.1, (hup k hk).2.2.2.2.1, fun hb => absurd (hup k hk).2.2.2.2.2 (by omega)⟩, h2, by have := E.size; omega, h4.write E (by intro k hk hlt; omega)⟩
 ·rintro i ys u lp hx ⟨hP, hrl, hsz, hE⟩ hL hs
  obtain ⟨j, rfl, hj1, hj⟩ : ∃ j : Nat, ys = [.int .i64 (j : Int)] ∧ od[i]? = some (j : Int) ∧ j < sg.length := by
   simp only [List.getElem?_map, Option.map_eq_some_iff] at hx
   obtain ⟨a, h, rfl⟩ := hx
   obtain ⟨j, rfl, hj⟩ := horm a (List.mem_of_getElem? h)
   exact ⟨j, rfl, h, hj⟩
  clear hx
  have hjd : j < ds.length := by omega
  obtain ⟨x, hx⟩ : ∃ x, ds[j]? = some x := ⟨_, List.getElem?_eq_getElem hjd⟩
  have hxm := List.mem_of_getElem? hx
  have hRR := hne0 j x hx
  have hxd : (ds.map Dk.d)[j]? = some x.d := by rw [List.getElem?_map, hx]; rfl
  have hstep : (od.take (i + 1)).foldl (fun s (i : Int) => perfD (ds.map Dk.d) m sg s i.toNat) s0 = perfD (ds.map Dk.d) m sg ((od.take i).foldl (fun s (i : Int) => perfD (ds.map Dk.d) m sg s i.toNat) s0) j := by
   rw [List.take_add_one, hj1]
   show (od.take i ++ [(j : Int)]).foldl _ s0 = _
   rw [List.foldl_append]; rfl
  rw [hstep]
  have hil : i < 19 := by have := (List.getElem?_eq_some_iff.1 hj1).1; omega
  clear hstep hj1
  generalize (od.take i).foldl (fun s (i : Int) => perfD (ds.map Dk.d) m sg s i.toNat) s0 = s at hP hrl ⊢
  have hperf : perfD (ds.map Dk.d) m sg s j = ⟨s.dn.set j true, x.d.needs.reverse.foldl (needF (ds.map Dk.d) m s.dn s.rv (sg.getD j 0) j) (s.lk.set j (-1)),
   if (x.d.needs.reverse.foldl (needF (ds.map Dk.d) m s.dn s.rv (sg.getD j 0) j) (s.lk.set j (-1))).getD j 0 < 0 then x.d.revokes.foldl (revF x.d.no) s.rv else s.rv⟩ := by unfold perfD; rw [hxd]
  rw [hperf]
  clear hperf
  obtain ⟨mr1, HM, HG⟩ := hP.rv
  have HN : ∀ (n : Int) (k : Nat), ((getM n mr1).getD nilV).ownBlock = some k → k < u.heap.size := fun n k hk => (HG.blk n hk).2.1
  clear HG
  simp only [parEnv]
  have hLl := lt_of_get hL.l
  refine g1 (cs := [.int .i64 (j : Int)]) fun B8 u2 XA G8 Z8 => ?_
  refine RunE.beginR (hL.up XA) hs (by omega) fun u3 t3 hL3 => ?_
  have l8 := Z8.lt
  have sA := XA.size
  have sT := t3.size
  replace hP : PMem u3 (w4.heap.size + 2) p R RR BD BL (.slice d ds.length cp) (.slice du sg.length cq) ds.length m s := (hP.up XA fun _ h => h.elim).up t3 fun k hk => ⟨(hup k (.inr hk)).1, (hup k (.inr hk)).2.1, (hup k (.inr hk)).2.2.1, (hup k (.inr hk)).2.2.2.1, (hup k (.inr hk)).2.2.2.2.1, fun hb => absurd (hup k (.inr hk)).2.2.2.2.2 (by omega)⟩
  replace Z8 : Blk u3 B8 [.int .i64 (j : Int)] 3 := Z8.ext t3 (by omega)
  replace HM := (HM.up XA).ext t3 (by omega)
  have X : ExtB (fun k => k = BD ∨ k = BL ∨ k = RR) w4 u3 := (hE.trans (ExtB.of_ext XA)).write t3 (by intro k hk hlt; have hk : k = _ := hk; omega)
  have U7 : Blk u3 B7 [.pointer (some ⟨p, 0, none⟩)] 97 := (Z7.up E4).ext X fun h => (hS _ h).2.2.1 rfl
  have U4 : Blk u3 B4 [.slice du sg.length cq] 31 := (Z4.up (W3.trans E4)).ext X fun h => by have := (hS _ h).1; have := Z4.lt; omega
  have Xw : ExtB (fun k => k = BD ∨ k = BL ∨ k = RR) w u3 := (ExtB.of_ext X4).trans X
  have hvu := isL_keep hv (by decide) Xw hSw
  have huu := isL_keep hu (by decide) Xw hSw
  have hxu := (hh x hxm).keep Xw hSw
  clear hL XA t3 sA
  obtain ⟨b, o, cap, hve, hr, hcp⟩ := isL_held hvu hjd
  cases hve
  have hrx := flat_row encDk hr hx
  obtain ⟨bs, os, caps, hve, hrs, hcps⟩ := isL_held huu hj
  cases hve
  have hsgj : sg[j]? = some (sg.getD j 0) := by rw [List.getElem?_eq_getElem hj, List.getD_eq_getElem?_getD, List.getElem?_eq_getElem hj]; rfl
  have hrj := flat_row encI hrs hsgj
  have hPp := hP.pl
  refine g ?_
  refine RunE.draw (fun _ => False) mix' ?_
  intro wd4 Xd4
  refine ga ?_
  refine Asy.sat0 (fun a w' => ∃ B cs, a = .pointer (some ⟨B, 0, none⟩) ∧ u3.heap.size ≤ B ∧ Blk w' B cs 42 ∧ cs.length = 41) rfl rfl rfl rfl (fun a w' w'' _ e h => ?_) (fun w' e => ?_) ?_
  ·obtain ⟨B, cs, h1, h2, h3, h4⟩ := h; exact ⟨B, cs, h1, h2, h3.up e, h4⟩
  ·refine OpE.mono (OpE.allocX Tryz.tOk rfl) ?_ fun _ _ h => h
   rintro _ w'' ⟨B, rfl, a⟩
   exact ⟨a.ext, B, _, rfl, by have := a.eq; have := (Xd4.trans e).size; omega, a.at_, rfl⟩
  refine Asy.tail (by decide +kernel) fun we4 Xe4 => ?_
  simp only [satsAll]
  rintro _ ⟨B9, cs9, rfl, gB9, Z9, hc9⟩
  have l9 := Z9.lt
  refine RunL.storeW (vs := x.cells) Tryz.tOk rfl rfl rfl rfl rfl Z9 (by rw [hc9]; rfl) rfl fun u5 t5 => ?_
  have E5 : Ext u3 u5 := (Xd4.trans Xe4).write t5.ext (by intro k hk hlt; have hk : k = B9 := hk; omega)
  replace Z9 : Blk u5 B9 x.cells 42 := t5.at_
  have l95 := Z9.lt
  have hc9' : 41 = 41 := rfl
  clear t5 Xe4 Xd4 hc9 hc9'
  refine g ?_
  refine RunE.draw (fun _ => False) mix' ?_
  intro wd5 Xd5
  refine ga ?_
  refine Asy.tail (by decide +kernel) fun we5 Xe5 => ?_
  simp only [satsAll]
  have E55 : Ext u5 we5 := Xd5.trans Xe5
  have E35 : Ext u3 we5 := E5.trans E55
  have hP5 := hP.up E35 fun _ h => h.elim
  refine RunL.storeFlatX Tryz.tOk encI j (-1) rfl rfl rfl rfl rfl rfl hP5.lk (by rw [hP5.llk]; exact hjd) fun u6 t6 => ?_
  have T6 : ExtB (fun k => k = BL) we5 u6 := t6.ext
  have hP6 := hP5.lk' T6 t6.at_ (by rw [List.length_set]; exact hP5.llk) (by omega)
  have hB4 := Z4.lt
  have s35 := E35.size
  have s55 := E55.size
  have s6 := T6.size
  have hRB : RR ≠ BL := fun h => MRR.ne ZL h.symm
  have hRD : RR ≠ BD := fun h => MRR.ne ZD h.symm
  replace HM := (HM.up E35).ext T6 hRB
  replace Z8 := (Z8.up E35).ext T6 (by omega)
  replace Z9 := (Z9.up E55).ext T6 (by omega)
  replace U7 := (U7.up E35).ext T6 (fun h => (hS BL (.inr (.inl rfl))).2.2.1 h.symm)
  replace U4 := (U4.up E35).ext T6 (by omega)
  replace hL3 := (hL3.up E35).ext T6 (by omega) (by omega)
  have X6 : ExtB (fun k => k = BD ∨ k = BL ∨ k = RR) w4 u6 := (X.trans (ExtB.of_ext E35)).trans (T6.mono fun k _ h => .inr (.inl h))
  have Xw6 : ExtB (fun k => k = BD ∨ k = BL ∨ k = RR) w u6 := (ExtB.of_ext X4).trans X6
  clear Xd5 Xe5 t6 E5 E35 E55 T6 hP hP5 hPp hrx hrj hrs hr hvu huu hxu Xw
  have hx6 := (hh x hxm).keep Xw6 hSw
  refine g ?_
  refine gc (back_ok x.d.needs _ u6 hx6.nl hx6.n) ?_
  rintro fv2 u7 ⟨⟨F2, hG2, hF2⟩, E7⟩
  have s7 := E7.size
  have hP7 := hP6.up E7 fun _ h => h.elim
  have X7 := X6.trans (ExtB.of_ext (S := fun k => k = BD ∨ k = BL ∨ k = RR) E7)
  have Xw7 : ExtB (fun k => k = BD ∨ k = BL ∨ k = RR) w u7 := (ExtB.of_ext X4).trans X7
  refine g ?_
  refine RunE.rangeGivesIn (w0 := u7) (F := F2) rfl (hL3.up E7).l ⟨_, hf_⟩ rfl hG2 (fun k => k = BL) (fun k hk => ?_) (ExtB.refl _ _) (fun ys hy => ?_) rfl
   (fun i w' => Blk w' BL (flat intC ((x.d.needs.reverse.take i).foldl (needF (ds.map Dk.d) m s.dn s.rv (sg.getD j 0) j) (s.lk.set j (-1)))) 3 ∧ ExtB (fun k => k = BL) u7 w') ?_ ?_ ?_ ?_ ?_
  ·obtain ⟨h1, h2⟩ := hF2 k hk
   refine ⟨fun h => ?_, h1⟩
   subst h
   rcases h2 with h2 | ⟨h2, h3⟩
   ·omega
   ·have := isL_own (hh x hxm).n (by decide) h2 h3
    have := E1.size; omega
  ·unfold backs at hy; obtain ⟨a, -, rfl⟩ := List.mem_map.1 hy; rfl
  ·intro w2 E _; exact ⟨hP7.lk.up E, ExtB.of_ext E⟩
  ·rintro i u h; exact h.2
  ·rintro i u u' ⟨h1, h2⟩ E
   exact ⟨h1.ext E (by omega), h2.write E (by intro k hk hlt; have hk : k = _ := hk; omega)⟩
  ·rintro q ys w8 lp2 hy ⟨hB, hE8⟩ hl2 hs2
   have hql : q < x.d.needs.length := by have := (List.getElem?_eq_some_iff.1 hy).1; rwa [backs_len] at this
   rw [backs_get _ _ hql] at hy
   cases hy
   have hrv : x.d.needs.reverse[q]? = some (x.d.needs.getD (x.d.needs.length - 1 - q) 0) := by
    rw [List.getElem?_reverse hql, List.getElem?_eq_getElem (by omega), List.getD_eq_getElem?_getD, List.getElem?_eq_getElem (by omega)]; rfl
   have hfold : (x.d.needs.reverse.take (q + 1)).foldl (needF (ds.map Dk.d) m s.dn s.rv (sg.getD j 0) j) (s.lk.set j (-1)) = needF (ds.map Dk.d) m s.dn s.rv (sg.getD j 0) j ((x.d.needs.reverse.take q).foldl (needF (ds.map Dk.d) m s.dn s.rv (sg.getD j 0) j) (s.lk.set j (-1))) (x.d.needs.getD (x.d.needs.length - 1 - q) 0) := by
    rw [List.take_add_one, hrv]
    show (x.d.needs.reverse.take q ++ [x.d.needs.getD (x.d.needs.length - 1 - q) 0]).foldl _ _ = _
    rw [List.foldl_append]; rfl
   rw [hfold]
   have hlkl : ((x.d.needs.reverse.take q).foldl (needF (ds.map Dk.d) m s.dn s.rv (sg.getD j 0) j) (s.lk.set j (-1))).length = ds.length := by rw [needs_len]; exact hP7.llk
   generalize (x.d.needs.reverse.take q).foldl (needF (ds.map Dk.d) m s.dn s.rv (sg.getD j 0) j) (s.lk.set j (-1)) = lk at hB hlkl ⊢
   generalize x.d.needs.getD (x.d.needs.length - 1 - q) 0 = no
   clear hfold hrv
   simp only [parEnv]
   refine g ?_
   refine RunE.beginL hl2 hs2 fun w9 t9 hl9 => ?_
   have X9 : ExtB (fun k => k = BL) u7 w9 := hE8.write t9 (by intro k hk hlt; have hk : k = _ := hk; omega)
   replace hB := hB.ext t9 (by omega)
   have s9 := X9.size
   have hP9 : PMem w9 (w4.heap.size + 2) p R RR BD BL (.slice (some ⟨b, o, none⟩) ds.length cp) (.slice (some ⟨bs, os, none⟩) sg.length cq) ds.length m ⟨s.dn, lk, s.rv⟩ := hP7.lk' X9 hB hlkl (by omega)
   have V8 := (Z8.up E7).ext X9 (by omega)
   have V7 := (U7.up E7).ext X9 (fun h => (hS BL (.inr (.inl rfl))).2.2.1 h.symm)
   have V4 := (U4.up E7).ext X9 (by omega)
   have Xw9 := Xw7.trans (X9.mono fun k _ h => (.inr (.inl h) : k = BD ∨ k = BL ∨ k = RR))
   have hv9 := isL_keep hv (by decide) Xw9 hSw
   have hu9 := isL_keep hu (by decide) Xw9 hSw
   obtain ⟨bs', os', caps', hve, hrs, -⟩ := isL_held hu9 hj
   cases hve
   have hrj := flat_row encI hrs hsgj
   obtain ⟨q2, hq2, hqv⟩ : ∃ q2 : Nat, q2 < ds.length ∧ (getM no m).getD 0 = (q2 : Int) := by
    cases hg : getM no m with
    | none => exact ⟨0, by omega, rfl⟩
    | some v =>
     have := hmlt no v hg
     exact ⟨v.toNat, by omega, by show v = _; omega⟩
   obtain ⟨xq, hxq⟩ : ∃ xq, ds[q2]? = some xq := ⟨_, List.getElem?_eq_getElem hq2⟩
   have hPp := hP9.pl
   have hM9 := hP9.at_
   have hnf : needF (ds.map Dk.d) m s.dn s.rv (sg.getD j 0) j lk no = if (stD (ds.map Dk.d) s.dn lk s.rv q2 (sg.getD j 0)).1 = 0 then lk else lk.set j no := by unfold needF; rw [hqv]; rfl
   rw [hnf]
   clear hl2 hE8 hnf
   refine g ?_
   refine RunE.draw (fun _ => False) mix' ?_
   intro wd8 Xd8
   refine ga ?_
   rw [hqv]
   refine Asy.callN rfl rfl rfl (fun w' X_ => pstate_ok ds _ cp _ _ p R RR BD BL m ⟨s.dn, lk, s.rv⟩ q2 xq (sg.getD j 0) w' (by omega) (hv9.up (Xd8.trans X_)) hxq (hP9.up (Xd8.trans X_) fun _ h => h.elim)) ?_
   simp only
   generalize stD (ds.map Dk.d) s.dn lk s.rv q2 (sg.getD j 0) = st
   refine ga ?_
   refine Asy.end_ (by decide +kernel) ?_
   intro we8 Xe8
   have E9 : Ext w9 we8 := Xd8.trans Xe8
   by_cases c : st.1 = 0
   ·rw [if_pos c]
    refine g ?_
    exact RunE.endL ⟨hB.up E9, X9.trans (ExtB.of_ext E9)⟩ (obj_ext hl9 E9 id)
   ·rw [if_neg c]
    refine g ?_
    refine RunE.draw (fun _ => False) mix' ?_
    intro wd10 Xd10
    refine ga ?_
    refine Asy.tail (by decide +kernel) fun we10 Xe10 => ?_
    simp only [satsAll]
    have E10 : Ext w9 we10 := (E9.trans Xd10).trans Xe10
    refine RunL.storeFlatX Tryz.tOk encI j no rfl rfl rfl rfl rfl rfl (hB.up E10) (by rw [hlkl]; exact hjd) fun w11 t11 => ?_
    refine g ?_
    exact RunE.endL ⟨t11.at_, (X9.trans (ExtB.of_ext E10)).trans t11.ext⟩ (obj_ext (obj_ext hl9 E10 id) t11.ext (by omega))
  ·rintro v10 ⟨h1, h2⟩
   rw [backs_len, List.take_of_length_le (by simp)] at h1
   have hlF : (x.d.needs.reverse.foldl (needF (ds.map Dk.d) m s.dn s.rv (sg.getD j 0) j) (s.lk.set j (-1))).length = ds.length := by rw [needs_len]; exact hP7.llk
   generalize x.d.needs.reverse.foldl (needF (ds.map Dk.d) m s.dn s.rv (sg.getD j 0) j) (s.lk.set j (-1)) = lk at h1 hlF ⊢
   have hP10 : PMem v10 (w4.heap.size + 2) p R RR BD BL (.slice (some ⟨b, o, none⟩) ds.length cp) (.slice (some ⟨bs, os, none⟩) sg.length cq) ds.length m ⟨s.dn, lk, s.rv⟩ := hP7.lk' h2 h1 hlF (by omega)
   have s10 := h2.size
   replace HM := (HM.up E7).ext h2 hRB
   replace Z8 := (Z8.up E7).ext h2 (by omega)
   replace Z9 := (Z9.up E7).ext h2 (by omega)
   replace U7 := (U7.up E7).ext h2 (fun h => (hS BL (.inr (.inl rfl))).2.2.1 h.symm)
   replace hL3 := (hL3.up E7).ext h2 (by omega) (by omega)
   have X10 := X7.trans (h2.mono fun k _ h => (.inr (.inl h) : k = BD ∨ k = BL ∨ k = RR))
   have hPp := hP10.pl
   clear hP6 hP7 hG2 hF2 hx6 Xw6 Xw7 X6 X7 U4 h1
   refine g ?_
   refine RunE.draw (fun _ => False) mix' ?_
   intro wd11 Xd11
   refine ga ?_
   refine Asy.tail (by decide +kernel) fun we11 Xe11 => ?_
   simp only [satsAll]
   have E11 : Ext v10 we11 := Xd11.trans Xe11
   have hP11' := hP10.up E11 fun _ h => h.elim
   refine RunL.storeFlatX Tryz.tOk encB j true rfl rfl rfl rfl rfl rfl hP11'.dn (by rw [hP11'.ldn]; exact hjd) fun v11 t11 => ?_
   have T11 : ExtB (fun k => k = BD) we11 v11 := t11.ext
   have hP11 := hP11'.dn' T11 t11.at_ (by rw [List.length_set]; exact hP11'.ldn) (by omega)
   have s11 := E11.size
   have s11' := T11.size
   replace HM := (HM.up E11).ext T11 hRD
   replace Z8 := (Z8.up E11).ext T11 (by omega)
   replace Z9 := (Z9.up E11).ext T11 (by omega)
   replace U7 := (U7.up E11).ext T11 (fun h => (hS BD (.inl rfl)).2.2.1 h.symm)
   replace hL3 := (hL3.up E11).ext T11 (by omega) (by omega)
   have X11 := (X10.trans (ExtB.of_ext (S := fun k => k = BD ∨ k = BL ∨ k = RR) E11)).trans (T11.mono fun k _ h => (.inl h : k = BD ∨ k = BL ∨ k = RR))
   clear hP10 hP11' T11 t11 Xd11 Xe11 hPp X10
   have hPp := hP11.pl
   simp only at hP11 hPp
   obtain ⟨bl, hbl⟩ : ∃ bl, lk[j]? = some bl := ⟨_, List.getElem?_eq_getElem (by omega)⟩
   have hrl2 : Row v11 BL (0 + j * 1) (intC bl) := flat_row encI hP11.lk.row hbl
   have e2 : lk.getD j 0 = bl := by rw [List.getD_eq_getElem?_getD, hbl]; rfl
   rw [e2]
   by_cases c : bl < 0
   ·rw [if_pos c]
    have hxw := hh x hxm
    have hx16 := hr16 x hxm
    obtain ⟨er, cr, hre⟩ : ∃ er cr, Value.slice x.ra x.d.revokes.length x.rc = .slice er x.d.revokes.length cr := ⟨_, _, rfl⟩
    have X12 : ExtB (fun k => k = BD ∨ k = BL ∨ k = RR) w v11 := (ExtB.of_ext X4).trans X11
    obtain ⟨hp1, hp2, hp3, ⟨mr0, hp4, hp5⟩, hp6, hp7, hp8, hp9⟩ := hP11
    simp only at hp2 hp3 hp5 hp7 hp8 hp9
    have hN0 : ∀ (n : Int) (k : Nat), ((getM n mr0).getD nilV).ownBlock = some k → k ≠ B8 := fun n k hk => by rw [mapW_uniq hp4 HM] at hk; have := HN n k hk; omega
    refine gx fun v12 E12 => ?_
    have s12 := E12.size
    refine rangeL hxw.r encI 91 92 93 (fun _ : List (Int × Value) => [(7, .pointer (some ⟨B7, 0, none⟩)), (8, .pointer (some ⟨B8, 0, none⟩)), (9, .pointer (some ⟨B9, 0, none⟩))])
     (fun i mr w' => MapW w' RR kvD (fun v : Value => v) mr ∧ GrpOk intC 1 3 w' (w4.heap.size + 2) mr ((x.d.revokes.take i).foldl (revF x.d.no) s.rv) ∧ (∀ (n : Int) (k : Nat), ((getM n mr).getD nilV).ownBlock = some k → k ≠ B8) ∧ ExtB (fun k => k = RR ∨ (w4.heap.size + 2 ≤ k ∧ k ≠ B8 ∧ k ≠ B9)) v12 w') mr0 sb_ ⟨hp4.up E12, hp5.up E12, hN0, ExtB.refl _ _⟩ ?_ ?_
    ·rintro q mr y v13 hy ⟨hM, hGr, hN, hE13⟩ b1 o1 cap1 hve1 hry hlt again
     have hb1 : b1 < w.heap.size := isL_own hxw.r (by decide) (by intro h; rw [h] at hlt; simp at hlt) (by rw [hve1]; rfl)
     rw [hve1] at again ⊢
     have htk : (x.d.revokes.take (q + 1)).foldl (revF x.d.no) s.rv = revF x.d.no ((x.d.revokes.take q).foldl (revF x.d.no) s.rv) y := by
      rw [List.take_add_one, hy]
      show (x.d.revokes.take q ++ [y]).foldl _ _ = _
      rw [List.foldl_append]; rfl
     rw [htk] at again
     have hlq : ((x.d.revokes.take q).foldl (revF x.d.no) s.rv y).length ≤ 1000 := by
      have := revs_len x.d.no (x.d.revokes.take q) s.rv (16 * i) hrl y
      rw [List.length_take] at this; omega
     generalize (x.d.revokes.take q).foldl (revF x.d.no) s.rv = rv at hGr again hlq
     have hry' : Row v13 b1 (o1 + q * 1) (intC y) := ((hry.ext X12 (fun h => by have := hSw _ h; omega)).up E12).ext hE13 (fun h => by rcases h with h | h <;> omega)
     have V7 := (U7.up E12).ext hE13 (fun h => by rcases h with h | h; exact (hS RR (.inr (.inr rfl))).2.2.1 h.symm; omega)
     have V8 := (Z8.up E12).ext hE13 (fun h => by rcases h with h | h; have := (hS RR (.inr (.inr rfl))).2.1; omega; exact h.2.1 rfl)
     have V9 := (Z9.up E12).ext hE13 (fun h => by rcases h with h | h; have := (hS RR (.inr (.inr rfl))).2.1; omega; exact h.2.2 rfl)
     have Vp := (hp1.up E12).ext hE13 (fun h => by rcases h with h | h; exact (hS RR (.inr (.inr rfl))).2.2.2 h.symm; omega)
     have s13 := hE13.size
     obtain ⟨vk, hvk⟩ : ∃ vk, vk = (getM y mr).getD nilV := ⟨_, rfl⟩
     have hO := hGr.own y
     have hb : ∀ k, vk.ownBlock = some k → w4.heap.size + 2 ≤ k ∧ k ≠ B8 ∧ k ≠ B9 ∧ k < v13.heap.size := fun k hk => by
      rw [hvk] at hk
      obtain ⟨h1, h2, cs, h3⟩ := hGr.blk y hk
      refine ⟨h1, hN y k hk, fun h => ?_, h2⟩
      subst h
      unfold Blk at V9; rw [V9] at h3; simp at h3
     rw [← hvk] at hO
     refine g ?_
     refine RunE.draw (fun k => vk.ownBlock = some k) mix' ?_
     intro wd Xd
     have L7 : ∀ w', ExtB (fun k => vk.ownBlock = some k) wd w' → Blk w' B7 [.pointer (some ⟨p, 0, none⟩)] 97 := fun w' e => (V7.up Xd).ext e fun h => by have := hb _ h; omega
     have L9 : ∀ w', ExtB (fun k => vk.ownBlock = some k) wd w' → Blk w' B9 x.cells 42 := fun w' e => (V9.up Xd).ext e fun h => (hb _ h).2.2.1 rfl
     have Lp : ∀ w', ExtB (fun k => vk.ownBlock = some k) wd w' → Blk w' p [.slice (some ⟨b, o, none⟩) ds.length cp, .map (some R), .slice (some ⟨bs, os, none⟩) sg.length cq, .slice (some ⟨BD, 0, none⟩) ds.length ds.length, .slice (some ⟨BL, 0, none⟩) ds.length ds.length, .map (some RR)] 149 := fun w' e => (Vp.up Xd).ext e fun h => by have := hb _ h; omega
     have LM : ∀ w', ExtB (fun k => vk.ownBlock = some k) wd w' → MapW w' RR kvD (fun v : Value => v) mr := fun w' e => (hM.up Xd).ext e fun h => by have := hb _ h; omega
     refine ga ?_
     rw [← hvk]
     refine ga ?_
     refine Asy.pre0 (fun a w' => ∃ B, a = .slice (some ⟨B, 0, none⟩) 1 1 ∧ Blk w' B [.int .i64 x.d.no] 3) rfl rfl rfl rfl (fun a w' w'' _ e h => ?_) (fun w' _ => ?_) ?_
     ·obtain ⟨B, h1, h2⟩ := h; exact ⟨B, h1, h2.up e⟩
     ·refine OpE.mono (OpE.buildSl Tryz.tOk [.int .i64 x.d.no] rfl rfl rfl rfl rfl rfl (by simp [Value.cells])) ?_ fun _ _ h => h
      rintro _ w'' ⟨B, rfl, a⟩; exact ⟨a.ext, B, rfl, a.at_⟩
     refine Asy.wriP 0 (fun a w' => w'.ownsRow (w4.heap.size + 2) 3 1 a ((rv y).length + 1) (flat intC (rv y) ++ intC x.d.no) ∧ ∀ k, a.ownBlock = some k → k < wd.heap.size → vk.ownBlock = some k) rfl rfl rfl rfl rfl rfl (fun a w' w'' _ e h => ⟨ownsRow_ext h.1 e (fun _ _ h => h), h.2⟩) (fun w' y' e hy' => ?_) ?_
     ·obtain ⟨B, rfl, hB⟩ := hy'
      have hx1 : IsSl w' 1 (.slice (some ⟨B, 0, none⟩) 1 1) 1 (intC x.d.no) := isSl_blk (n := 1) (cap := 1) (sz := 1) hB (fun i v h => by rw [Nat.zero_add]; exact h) rfl (Nat.le_refl 1)
      have hsz := (Xd.trans e).size
      refine OpE.mono (OpE.append' Tryz.tOk rfl rfl rfl rfl rfl rfl (ownsRow_ext hO (Xd.trans e) (fun _ _ h => h)) hx1 rfl (by show _ * 8 ≤ _; omega) (by omega) (by omega)) ?_ fun _ _ h => h
      rintro r' w'' ⟨h1, h2, h3⟩
      exact ⟨h2, h1, fun k hk hlt => h3 k hk (by have := e.size; omega)⟩
     refine Asy.tailW (by decide +kernel) fun we r Xe hr => ?_
     simp only [satsAll]
     refine RunL.exN rfl rfl (ms rfl rfl rfl (LM we Xe) (ExtB.refl _ _) inferInstance inferInstance (u := r) rfl) ?_
     rintro _ w9 ⟨M9, E9, -⟩
     refine g ?_
     have hF3 : ExtB (fun k => ((getM y mr).getD nilV).ownBlock = some k) v13 we := hvk ▸ ((ExtB.of_ext Xd).trans Xe)
     have g1 : GrpOk intC 1 3 we (w4.heap.size + 2) (setM y r mr) (revF x.d.no rv y) := hGr.snoc hF3 hr.1 (fun k hk hlt => by rw [← hvk]; exact hr.2 k hk (by have := Xd.size; omega)) (by unfold revF; rw [if_pos rfl]) (fun k hk => by unfold revF; rw [if_neg hk])
     refine RunE.weaken sb_ (again (setM y r mr) w9 ⟨M9, g1.ext E9 (fun k cs hk _ h => by have h : k = RR := h; omega), fun n k hk => ?_, ?_⟩)
     ·rw [getM_set] at hk
      by_cases hny : n = y
      ·rw [if_pos hny] at hk
       have hk : r.ownBlock = some k := hk
       rcases Nat.lt_or_ge k v13.heap.size with hlt' | hge
       ·exact (hb k (hr.2 k hk (by have := Xd.size; omega))).2.1
       ·have := V8.lt; omega
      ·rw [if_neg hny] at hk
       exact hN n k hk
     ·refine (hE13.write ((ExtB.of_ext Xd).trans Xe) fun k hk hlt' => ?_).trans (E9.mono fun k _ h => .inl h)
      have := hb k hk
      exact .inr ⟨this.1, this.2.1, this.2.2.1⟩
    ·rintro mr v14 ⟨hM, hGr, hN, hE14⟩
     rw [List.take_length] at hGr
     have hB9 : ∀ k, (k = RR ∨ (w4.heap.size + 2 ≤ k ∧ k ≠ B8 ∧ k ≠ B9)) → k ≠ p ∧ k ≠ BD ∧ k ≠ BL ∧ k ≠ R ∧ k ≠ w4.heap.size ∧ k ≠ w4.heap.size + 1 := fun k hk => by
      have h1 := hp4.ne hp1
      have h2 := hp4.ne hp2
      have h3 := hp4.ne hp3
      rcases hk with rfl | hk
      ·exact ⟨h1.symm, h2.symm, h3.symm, fun h => hRR h.symm, by omega, by omega⟩
      ·exact ⟨by omega, by omega, by omega, by omega, by omega, by omega⟩
     have hlen14 := revs_len x.d.no x.d.revokes s.rv (16 * i) hrl
     refine g ?_
     refine RunE.endR ⟨⟨(hp1.up E12).ext hE14 fun h => (hB9 _ h).1 rfl, (hp2.up E12).ext hE14 fun h => (hB9 _ h).2.1 rfl, (hp3.up E12).ext hE14 fun h => (hB9 _ h).2.2.1 rfl, ⟨mr, hM, hGr⟩, (hp6.up E12).ext hE14 fun h => (hB9 _ h).2.2.2.1 rfl, hp7, hp8, fun k => by have := hlen14 k; show (x.d.revokes.foldl (revF x.d.no) s.rv k).length ≤ _; omega⟩, fun k => by have := hlen14 k; show (x.d.revokes.foldl (revF x.d.no) s.rv k).length ≤ _; omega, by have := hE14.size; omega, ?_⟩ ((hL3.up E12).ext hE14 (fun h => (hB9 _ h).2.2.2.2.2 rfl) (fun h => (hB9 _ h).2.2.2.2.1 rfl))
     exact (X11.trans (ExtB.of_ext E12)).write hE14 (by intro k hk hlt; rcases hk with hk | hk; exact .inr (.inr hk); omega)
   ·rw [if_neg c]
    refine gx fun v12 E12 => ?_
    have s12 := E12.size
    exact RunE.endR ⟨hP11.up E12 fun _ h => h.elim, fun k => by have := hrl k; show (s.rv k).length ≤ _; omega, by omega, X11.trans (ExtB.of_ext E12)⟩ (hL3.up E12)
 ·rintro w' ⟨hP, hrl, hsz, hE⟩ hD
  rw [List.length_map, List.take_length] at hP
  have U7 : Blk w' B7 [.pointer (some ⟨p, 0, none⟩)] 97 := (Z7.up E4).ext hE fun h => (hS _ h).2.2.1 rfl
  refine g ?_
  refine RunE.retFn1 hf_ hD fun w9 t9 => ⟨_, .tmp rfl .nil, ⟨_, p, R, RR, BD, BL, rfl, hP.up t9.ext fun k hk => ?_⟩, ?_⟩
  ·have hk : k = w4.heap.size := hk
   exact ⟨(hup k (.inl hk)).1, (hup k (.inl hk)).2.1, (hup k (.inl hk)).2.2.1, (hup k (.inl hk)).2.2.2.1, (hup k (.inl hk)).2.2.2.2.1, fun hb => absurd (hup k (.inl hk)).2.2.2.2.2 (by omega)⟩
  ·exact (X4.write hE (by intro k hk hlt; have := hSw k hk; omega)).write t9.ext (by intro k hk hlt; have hk : k = w4.heap.size := hk; omega)
end Go.Sg
end
section
set_option maxRecDepth 4000
namespace Go.Doc
open Go.Rn Go.Rec Go.Best
def okTime (t : Int) : Bool := decide (0 ≤ t ∧ t < 1099511627776)
def okArg (ds : List Dc) (sg : List Int) (t : Int) : Bool := sigsOk ds.length sg && okTime t
def whyD (ds : List Dc) (sg : List Int) (no t : Int) : Int × Int × Int :=
 match getM no (atL ds ds.length) with
 | none => (0, 0, 1)
 | some i => ((stateD ds sg t i.toNat).1, (stateD ds sg t i.toNat).2, 0)
theorem chkDoc_in {ds : List Dc} (h : chkDoc ds = 0) : ds.length ≤ 4096 ∧ (∀ d ∈ ds, rightDc d = true ∧ hasD (atL ds ds.length) d = true) ∧ Srt Dc.no ds := by
 obtain ⟨h1, h2⟩ := (chk_ok (by decide)).1 h
 obtain ⟨h3, h4⟩ := good_srt h2
 refine ⟨h1, fun d hd => ?_, h3⟩
 have := (h4 d hd).2
 unfold okD at this
 rwa [Bool.and_eq_true] at this
theorem right_len {d : Dc} (h : rightDc d = true) : numD d ∧ incL 1048577 d.parties = true ∧ incL d.no d.revokes = true ∧ incL d.no d.needs = true ∧ d.revokes.length ≤ 16 := by
 unfold rightDc at h
 rw [Bool.and_eq_true, Bool.and_eq_true, Bool.and_eq_true, decide_eq_true_eq] at h
 refine ⟨h.1, h.2.1, h.2.2.1, h.2.2.2, ?_⟩
 have := h.2.2.1
 unfold incL at this
 rw [Bool.and_eq_true, decide_eq_true_eq] at this
 exact this.2
theorem force_step (f : Nat → Bool) (no : Nat → Int) (i : Nat) : ((List.range (i + 1)).filter f).map no = ((List.range i).filter f).map no ++ (if f i then [no i] else []) := by
 rw [List.range_succ, List.filter_append, List.map_append]
 congr 1
 cases h : f i <;> simp [h]
end Go.Doc
namespace Go.Sg
open Go.Rn Go.Proofs Go.Doc Go.Rec Go.Best Go.RowKit
attribute [local irreducible] Go.Rn.RetsX Go.Rn.RunLN Go.Rn.AsyN Go.Rn.RunL Go.Rn.RunE Go.Rn.Asy Go.Rn.OpV Go.Rn.OpE Go.Rn.ExecE
theorem inforce_ok (ds : List Dk) (v u : Value) (sg : List Int) (t : Int) (w : World) (hd19 : ds.length ≤ 19) (hsl : sg.length ≤ 100000) (hc : chkDoc (ds.map Dk.d) = 0) (hv : IsL w Dk.cells 41 v ds) (hu : IsL w intC 1 u sg) (hh : ∀ x ∈ ds, HoldD w x) :
  Rets Tryz.prog 13 [v, u, .int .i64 t] w fun r w' => (∃ q, r = .tuple #[q, .int .i64 (if okArg (ds.map Dk.d) sg t then 0 else 1)] ∧ (okArg (ds.map Dk.d) sg t = true → IsL w' intC 1 q (forceD (ds.map Dk.d) sg t))) ∧ Ext w w' := by
 obtain ⟨h1, h2, h3⟩ := chkDoc_in hc
 obtain ⟨d, cp, rfl⟩ := isSl_slice hv
 obtain ⟨du, cq, rfl⟩ := isSl_slice hu
 refine en Tryz.func13 55 fun hf_ => ?_
 refine gc (doccheck_ok ds _ w hv hh) ?_
 rintro _ w1 ⟨rfl, E1⟩
 rw [hc]
 refine gc (sigs_ok ds _ _ sg w1 hsl (hv.up E1) (hu.up E1)) ?_
 rintro _ w2 ⟨rfl, E2⟩
 have hok : okArg (ds.map Dk.d) sg t = (sigsOk ds.length sg && okTime t) := by unfold okArg; rw [List.length_map]
 cases hs : sigsOk ds.length sg with
 | false =>
  rw [hok, hs, Bool.false_and]
  refine rt ?_
  exact ⟨⟨_, rfl, fun h => by cases h⟩, xt⟩
 | true =>
  by_cases ht : 0 ≤ t ∧ t < 1099511627776
  case neg =>
   rw [hok, hs, Bool.true_and, show okTime t = false from decide_eq_false ht]
   refine rt ?_
   exact ⟨⟨_, rfl, fun h => by cases h⟩, xt⟩
  rw [hok, hs, Bool.true_and, show okTime t = true from decide_eq_true ht]
  have hlen : sg.length = ds.length := by
   unfold sigsOk at hs
   rw [Bool.and_eq_true, decide_eq_true_eq] at hs
   exact hs.1
  have X2 : Ext w w2 := E1.trans E2
  refine g ?_
  refine gc (played_ok ds _ _ sg t w2 (by omega) hlen.symm (hv.up X2) (hu.up X2) (fun x hx => (hh x hx).up X2) (fun x hx => (right_len (h2 x.d (List.mem_map.2 ⟨x, hx, rfl⟩)).1).2.2.2.2)) ?_
  rintro _ w3 ⟨⟨base, p, R, RR, BD, BL, rfl, hP⟩, E3⟩
  have hfd : forceD (ds.map Dk.d) sg t = ((List.range ds.length).filter fun i => decide ((stateD (ds.map Dk.d) sg t i).1 = 0)).map fun i => ((ds.map Dk.d)[i]?.map Dc.no).getD 0 := by unfold forceD; rw [List.length_map]
  rw [hfd]
  have hst : ∀ i, stateD (ds.map Dk.d) sg t i = stD (ds.map Dk.d) (playD (ds.map Dk.d) sg t).dn (playD (ds.map Dk.d) sg t).lk (playD (ds.map Dk.d) sg t).rv i t := fun i => rfl
  generalize hfn : (fun (i : Nat) => decide ((stateD (ds.map Dk.d) sg t i).1 = 0)) = f
  generalize hno : (fun (i : Nat) => ((ds.map Dk.d)[i]?.map Dc.no).getD 0) = no
  generalize playD (ds.map Dk.d) sg t = s at hP hst
  have X3 : Ext w w3 := X2.trans E3
  have s3 := E3.size
  refine g ?_
  refine rangeL (hv.up X3) encDk 32 33 34 (fun q : Value => [(2, .int .i64 t), (6, q), (9, .pointer (some ⟨p, 0, none⟩))])
   (fun i q w' => w'.ownsRow w3.heap.size 3 1 q (((List.range i).filter f).map no).length (flat intC (((List.range i).filter f).map no)) ∧ Ext w3 w') (.slice none 0 0) sb_ ⟨World.ownsRow_nil _ _ _ _, ExtB.refl _ _⟩ ?_ ?_
  ·rintro i q x w4 hx ⟨hO, X4⟩ b o cap hve hrx hlt again
   cases hve
   rw [force_step] at again
   have hfi : f i = decide ((stD (ds.map Dk.d) s.dn s.lk s.rv i t).1 = 0) := by rw [← hfn]; simp only [hst]
   have hni : no i = x.d.no := by rw [← hno]; simp only [List.getElem?_map, hx]; rfl
   have hl4 : (((List.range i).filter f).map no).length ≤ 19 := by
    rw [List.length_map]; exact Nat.le_trans (List.length_filter_le _ _) (by rw [List.length_range]; omega)
   generalize ((List.range i).filter f).map no = acc at hO again hl4
   clear hfn hno
   refine g1 (cs := x.cells) fun B11 w5 E5 G5 Z5 => ?_
   refine gc (pstate_ok ds _ _ _ base p R RR BD BL _ s i x t w5 (by omega) (hv.up (X3.trans (X4.trans E5))) hx (hP.up (X4.trans E5) fun _ h => h.elim)) ?_
   rintro _ w6 ⟨rfl, E6⟩
   generalize stD (ds.map Dk.d) s.dn s.lk s.rv i t = st at hfi
   by_cases c : st.1 = 0
   ·rw [hfi, decide_eq_true c, if_pos rfl, hni, flat_append, flat_one, List.length_append] at again
    have hO6 := ownsRow_ext hO (E5.trans E6) fun _ _ h => h
    have s6 := (X4.trans (E5.trans E6)).size
    refine g ?_
    refine ap1 encI x.d.no hO6 (ExtB.refl _ _) s6 (by omega) rfl rfl rfl rfl rfl rfl rfl rfl rfl rfl (fun _ => rfl) rfl (fun _ => rfl) fun q1 y' w7 O7 E7 _ => ?_
    refine g ?_
    exact RunE.weaken sb_ (again y' w7 ⟨O7, (X4.trans (E5.trans E6)).write E7 (by intro k hk hlt'; have := ownsRow_ge hO6 hk; omega)⟩)
   ·rw [hfi, decide_eq_false c, if_neg Bool.false_ne_true, List.append_nil] at again
    refine g ?_
    exact RunE.weaken sb_ (again q w6 ⟨ownsRow_ext hO (E5.trans E6) fun _ _ h => h, X4.trans (E5.trans E6)⟩)
  ·rintro q w4 ⟨hO, X4⟩
   refine rt ?_
   exact ⟨⟨_, rfl, fun _ => isSl_own hO⟩, X3.trans X4⟩
theorem why_ok (ds : List Dk) (v u : Value) (sg : List Int) (no t : Int) (w : World) (hd19 : ds.length ≤ 19) (hsl : sg.length ≤ 100000) (hc : chkDoc (ds.map Dk.d) = 0) (hok : okArg (ds.map Dk.d) sg t = true) (hv : IsL w Dk.cells 41 v ds) (hu : IsL w intC 1 u sg) (hh : ∀ x ∈ ds, HoldD w x) :
  Rets Tryz.prog 82 [v, u, .int .i64 no, .int .i64 t] w fun r w' => r = .tuple #[.int .i64 (whyD (ds.map Dk.d) sg no t).1, .int .i64 (whyD (ds.map Dk.d) sg no t).2.1, .int .i64 (whyD (ds.map Dk.d) sg no t).2.2] ∧ Ext w w' := by
 obtain ⟨h1, h2, h3⟩ := chkDoc_in hc
 obtain ⟨d, cp, rfl⟩ := isSl_slice hv
 obtain ⟨du, cq, rfl⟩ := isSl_slice hu
 unfold okArg at hok
 rw [List.length_map, Bool.and_eq_true] at hok
 obtain ⟨hs, ht⟩ := hok
 have hlen : sg.length = ds.length := by
  have := hs
  unfold sigsOk at this
  rw [Bool.and_eq_true, decide_eq_true_eq] at this
  exact this.1
 refine en Tryz.func82 54 fun hf_ => ?_
 refine gc (doccheck_ok ds _ w hv hh) ?_
 rintro _ w1 ⟨rfl, E1⟩
 rw [hc]
 refine gc (sigs_ok ds _ _ sg w1 hsl (hv.up E1) (hu.up E1)) ?_
 rintro _ w2 ⟨rfl, E2⟩
 rw [hs]
 have ht' : 0 ≤ t ∧ t < 1099511627776 := of_decide_eq_true ht
 have X2 : Ext w w2 := E1.trans E2
 refine g ?_
 refine gc (played_ok ds _ _ sg t w2 (by omega) hlen.symm (hv.up X2) (hu.up X2) (fun x hx => (hh x hx).up X2) (fun x hx => (right_len (h2 x.d (List.mem_map.2 ⟨x, hx, rfl⟩)).1).2.2.2.2)) ?_
 rintro _ w3 ⟨⟨base, p, R, RR, BD, BL, rfl, hP⟩, E3⟩
 have hlm : atL (ds.map Dk.d) (ds.map Dk.d).length = atL (ds.map Dk.d) ds.length := by rw [List.length_map]
 have hPp := hP.pl
 have hM := hP.at_
 unfold whyD
 rw [hlm]
 cases hg : getM no (atL (ds.map Dk.d) ds.length) with
 | none =>
  refine rt ?_
  exact ⟨rfl, xt⟩
 | some i =>
  have hi := atL_lt _ _ _ _ hg
  obtain ⟨j, rfl⟩ : ∃ j : Nat, i = (j : Int) := ⟨i.toNat, by omega⟩
  obtain ⟨x, hx⟩ : ∃ x, ds[j]? = some x := ⟨_, List.getElem?_eq_getElem (by omega)⟩
  have X3 : Ext w w3 := X2.trans E3
  refine gc (pstate_ok ds _ _ _ base p R RR BD BL _ (playD (ds.map Dk.d) sg t) j x t w3 (by omega) (hv.up X3) hx hP) ?_
  rintro _ w4 ⟨rfl, E4⟩
  refine rt ?_
  exact ⟨rfl, xt⟩
end Go.Sg
end
