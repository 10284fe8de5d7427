/- Parts of this project: Apv0, Apv1, Apv2, Apv3, Apv4, Apv5. -/
import Derived.Test.YtlchncheagigpaaGreatDoorTu02
import Derived.Test.YtlchncheagigpaaGreatDoorTu04
import Derived.Test.YtlchncheagigpaaGreatDoorTu03
import Derived.Test.YtlchncheagigpaaGreatDoorTu09
set_option maxHeartbeats 32000000
set_option linter.unusedSimpArgs false
set_option linter.unusedVariables false
set_option linter.unusedSectionVars false
section
set_option maxRecDepth 4000
namespace Go.Apv
open Go.Best Go.Rn
structure Av where
 no : Int
 at_ : Int
 known : Int
 doc : Int
 by_ : Int
 for_ : Int
 office : Int
 gone : Bool
deriving DecidableEq, Inhabited
def zeroA : Av := ⟨0, 0, 0, 0, 0, 0, 0, false⟩
def rightV (x : Av) : Bool := decide (0 ≤ x.no ∧ x.no ≤ 1048576 ∧ 0 ≤ x.at_ ∧ x.at_ ≤ 1099511627775 ∧ 0 ≤ x.known ∧ x.known ≤ 1099511627775 ∧ 0 ≤ x.doc ∧ x.doc ≤ 4095 ∧ 0 ≤ x.by_ ∧ x.by_ ≤ 63 ∧ 0 ≤ x.for_ ∧ x.for_ ≤ 63 ∧ 0 ≤ x.office ∧ x.office ≤ 31)
abbrev chkV (l : List Av) : Int := chk Av.no rightV 4096 280 l
abbrev Sa := Int × Int × Int × Int
def sjA (x : Av) : Sa := (x.doc, x.by_, x.for_, x.office)
def cntA (doc t kn : Int) (x : Av) : Bool := decide (x.doc = doc ∧ x.at_ ≤ t ∧ x.known ≤ kn)
def countA (doc t kn : Int) (l : List Av) : List Av := l.filter (cntA doc t kn)
def lastA' (l : List Av) : List (Sa × Av) := lastM sjA Av.at_ (fun _ => true) l
def stA (m : List (Sa × Av)) (x : Av) : Bool := !x.gone && decide ((getM (sjA x) m).getD zeroA = x)
def standA (doc t kn : Int) (l : List Av) : List Av := (countA doc t kn l).filter (stA (lastA' (countA doc t kn l)))
def keepA (begun think t : Int) (x : Av) : Bool := decide (begun ≤ x.at_ ∧ think ≤ t - x.at_)
def countingA (doc begun think t kn : Int) (l : List Av) : List Av := (standA doc t kn l).filter (keepA begun think t)
end Go.Apv
end
section
set_option maxRecDepth 4000
namespace Go.Apv
open Go.Rn Go.Rec
@[reducible] def Av.cells (x : Av) : List Value := [.int .i64 x.no, .int .i64 x.at_, .int .i64 x.known, .int .i64 x.doc, .int .i64 x.by_, .int .i64 x.for_, .int .i64 x.office, .bool x.gone]
theorem encAv : EncOk Av.cells 8 := ⟨fun _ => rfl, fun _ => rfl, by decide⟩
abbrev avV (x : Av) : Value := .agg x.cells.toArray
theorem chkV_len {l : List Av} (h : chkV l = 0) : l.length ≤ 4096 := ((Go.Best.chk_ok (by decide)).1 h).1
def wth (hi : Int) (l : List Int) : Bool := !l.any fun n => decide (n < 0) || decide (hi < n)
theorem wth1 {hi a : Int} : wth hi [a] = decide (0 ≤ a ∧ a ≤ hi) := by
 unfold wth; rw [Bool.eq_iff_iff]; simp
theorem wth2 {hi a b : Int} : wth hi [a, b] = decide ((0 ≤ a ∧ a ≤ hi) ∧ (0 ≤ b ∧ b ≤ hi)) := by
 unfold wth; rw [Bool.eq_iff_iff]; simp
theorem wth4 {hi a b c d : Int} : wth hi [a, b, c, d] = decide ((0 ≤ a ∧ a ≤ hi) ∧ (0 ≤ b ∧ b ≤ hi) ∧ (0 ≤ c ∧ c ≤ hi) ∧ (0 ≤ d ∧ d ≤ hi)) := by
 unfold wth; rw [Bool.eq_iff_iff]; simp
abbrev cntgV (b4 b5 b6 b7 : Nat) : Value := .func (.func 205) #[] #[.pointer (some ⟨b4, 0, none⟩), .pointer (some ⟨b5, 0, none⟩), .pointer (some ⟨b6, 0, none⟩), .pointer (some ⟨b7, 0, none⟩)]
end Go.Apv
namespace Go.Sg
open Go.Rn Go.Proofs Go.Apv Go.Rec Go.Best
attribute [local irreducible] Go.Rn.RetsX Go.Rn.RunLN Go.Rn.AsyN Go.Rn.RunL Go.Rn.RunE Go.Rn.Asy Go.Rn.OpV Go.Rn.OpE Go.Rn.ExecE
theorem aodd_ok (hi n : Int) (b2 : Nat) (w : World) (Y2 : Blk w b2 [.int .i64 hi] 3) :
  Rets Tryz.prog 153 [.int .i64 n, .pointer (some ⟨b2, 0, none⟩)] w fun r w' => r = .bool (decide (n < 0) || decide (hi < n)) ∧ w = w' := by
 refine en Tryz.func153 11 fun hf_ => ?_
 repeat' (first | refine gn (fun h_ => ?_) (fun h_ => ?_) | fail)
 all_goals
  refine rt ?_
  exact ⟨congrArg Value.bool clB, rfl⟩
instance iApv1_1 (hi : Int) : PLi 116 [.int .i64 hi] (fun l => .bool (wth hi l)) := ⟨fun w v l hv hl => by
 change Rets Tryz.prog 116 [.int .i64 hi, v] w _
 obtain ⟨d, cp, rfl⟩ := isSl_slice hv
 refine en Tryz.func116 9 fun hf_ => ?_
 refine g1 (cs := [.int .i64 hi]) fun B2 w1 E1 G1 Z2 => ?_
 refine gc (icon_ok l (fun n => decide (n < 0) || decide (hi < n)) _ _ w1 hl (hv.up xt) (fun x _ w' e => RetsX.v (fi := []) (args := [.int .i64 x]) (ca := [.pointer (some ⟨B2, 0, none⟩)]) ((aodd_ok hi x B2 w' (Z2.up xt)).mono fun _ _ h => ⟨h.1, by rw [h.2]; exact ExtB.refl _ _⟩))) ?_
 rintro _ w3 ⟨rfl, E3⟩
 refine rt ?_
 exact ⟨rfl, xt⟩⟩
instance iApv1_2 (x : Av) : Px 73 [.agg x.cells.toArray] (.bool (rightV x)) := ⟨fun w => by
 obtain ⟨no, at_, known, doc, by_, for_, office, gone⟩ := x
 unfold rightV
 refine en Tryz.func73 35 fun hf_ => ?_
 refine g1 (cs := [.int .i64 no, .int .i64 at_, .int .i64 known, .int .i64 doc, .int .i64 by_, .int .i64 for_, .int .i64 office, .bool gone]) fun B w1 E1 G1 Z => ?_
 repeat' (first | refine gnx (fun ω E h_ => ?_) (fun ω E h_ => ?_) | fail)
 all_goals
  refine rt ?_
  refine ⟨congrArg Value.bool ?_, xt⟩
  simp only [wth1, wth2] at *
  exact clB⟩
theorem acheck_ok (l : List Av) (v : Value) (w : World) (hv : IsL w Av.cells 8 v l) : Rets Tryz.prog 35 [v] w fun r w' => r = .int .i64 (chkV l) ∧ Ext w w' := by
 refine en Tryz.func35 27 fun hf_ => ?_
 refine gs (fun h => ?_) (fun h => ?_)
 ·refine rt ?_
  exact ⟨by rw [oneOr]; unfold chkV Best.chk; rw [if_pos (by simp at h; omega)], xt⟩
 have hle : ¬ 4096 < l.length := by simp at h; omega
 clear h
 refine g ?_
 refine RunE.loop (ι := Nat × Int) (fun x => [(9, v), (10, .int .i64 (l.length : Int)), (3, .int .i64 x.2), (11, .int .i64 (x.1 : Int))])
  (fun x w' => x.1 ≤ l.length ∧ good Av.no rightV x.2 (l.drop x.1) = good Av.no rightV (-1) l ∧ Ext w w') (fun x => l.length - x.1) (0, -1) sb_ ⟨Nat.zero_le _, rfl, xt⟩ ?_
 rintro ⟨i, last⟩ w3 ⟨hi, hg, X⟩ again
 simp only at hi hg again ⊢
 have bad : good Av.no rightV (-1) l = false → ∀ c : Int, Value.int .i64 280 = .int .i64 (chkV l) := fun h _ => by
  unfold chkV Best.chk; rw [if_neg hle, if_neg (by rw [h]; simp)]
 by_cases hlt : i < l.length
 ·obtain ⟨b, o, cap, rfl, hr, hc⟩ := isL_held hv hlt
  obtain ⟨x, hx⟩ : ∃ x, l[i]? = some x := ⟨_, List.getElem?_eq_getElem hlt⟩
  have hrx := flat_row encAv hr hx
  have hd : l.drop i = x :: l.drop (i + 1) := by
   obtain ⟨hi, e⟩ := List.getElem?_eq_some_iff.1 hx
   rw [List.drop_eq_getElem_cons hi, e]
  rw [hd] at hg
  simp only [good] at hg
  refine g1 (cs := x.cells) fun B w4 E4 G Z => ?_
  cases hrt : rightV x with
  | false =>
   rw [hrt, Bool.false_and, Bool.false_and] at hg
   refine rt ?_
   exact ⟨bad hg.symm 0, xt⟩
  | true =>
   rw [hrt, Bool.true_and] at hg
   by_cases hlast : last < x.no
   ·rw [decide_eq_true hlast, Bool.true_and] at hg
    refine g ?_
    refine RunE.weaken sb_ (again (i + 1, x.no) _ (by simp only; omega) ⟨by simp only; omega, hg, xt⟩)
   ·rw [decide_eq_false hlast, Bool.false_and] at hg
    refine rt ?_
    exact ⟨bad hg.symm 0, xt⟩
 ·obtain rfl : i = l.length := by omega
  rw [List.drop_length] at hg
  simp only [good] at hg
  refine rt ?_
  exact ⟨by rw [oneOr]; unfold chkV Best.chk; rw [if_neg hle, if_pos hg.symm], xt⟩
theorem cntg_gives (doc t kn : Int) (l : List Av) (v : Value) (b4 b5 b6 b7 : Nat) (w0 : World) (hl : l.length ≤ 100000) (hv : IsL w0 Av.cells 8 v l)
  (Y4 : Blk w0 b4 [v] 28) (Y5 : Blk w0 b5 [.int .i64 doc] 3) (Y6 : Blk w0 b6 [.int .i64 t] 3) (Y7 : Blk w0 b7 [.int .i64 kn] 3) :
  Gives Tryz.prog (cntgV b4 b5 b6 b7) ((countA doc t kn l).map fun x => [avV x]) w0 (fun k => k = b4 ∨ k = b5 ∨ k = b6 ∨ k = b7 ∨ (l ≠ [] ∧ v.ownBlock = some k)) := by
 intro S J y w hS hJ0 hJX hJup hy
 refine RetsX.v (fi := []) (args := [y]) (ca := [.pointer (some ⟨b4, 0, none⟩), .pointer (some ⟨b5, 0, none⟩), .pointer (some ⟨b6, 0, none⟩), .pointer (some ⟨b7, 0, none⟩)]) ?_
 change RetsX Tryz.prog 205 [y, .pointer (some ⟨b4, 0, none⟩), .pointer (some ⟨b5, 0, none⟩), .pointer (some ⟨b6, 0, none⟩), .pointer (some ⟨b7, 0, none⟩)] _ _ _
 have at0 : ∀ i u, J i u → Blk u b4 [v] 28 ∧ Blk u b5 [.int .i64 doc] 3 ∧ Blk u b6 [.int .i64 t] 3 ∧ Blk u b7 [.int .i64 kn] 3 := fun i u h => by
  have e := hJX i u h
  exact ⟨Y4.ext e (hS _ (by simp)), Y5.ext e (hS _ (by simp)), Y6.ext e (hS _ (by simp)), Y7.ext e (hS _ (by simp))⟩
 unfold countA at *
 refine en Tryz.func205 37 fun hf_ => ?_
 obtain ⟨U4, -, -, -⟩ := at0 0 w hJ0
 refine g ?_
 refine rangeL hv encAv 8 9 10 (fun _ : Unit => [(0, y), (1, .pointer (some ⟨b4, 0, none⟩)), (2, .pointer (some ⟨b5, 0, none⟩)), (3, .pointer (some ⟨b6, 0, none⟩)), (4, .pointer (some ⟨b7, 0, none⟩))])
  (fun i _ w' => J ((l.take i).filter (cntA doc t kn)).length w') () sb_ (by simpa using hJ0) ?_ ?_
 ·rintro i ⟨⟩ x w3 hx hJ b o cap rfl hrx hlt again
  obtain ⟨-, U5, U6, U7⟩ := at0 _ w3 hJ
  replace hrx := hrx.ext (hJX _ _ hJ) (hS b (.inr (.inr (.inr (.inr ⟨List.ne_nil_of_length_pos (by omega), rfl⟩)))))
  obtain ⟨f1, f2⟩ := filter_take (cntA doc t kn) hx
  have skip : cntA doc t kn x = false → ∀ w5, Ext w3 w5 → _ := fun h w5 E5 => again () w5 (by rw [f1, h]; simpa using hJup _ _ _ hJ E5)
  have give : cntA doc t kn x = true → ∀ w5, J (((l.take i).filter (cntA doc t kn)).length + 1) w5 → _ := fun h w5 H => again () w5 (by rw [f1, h]; simpa using H)
  replace hy := fun h w5 E => hy _ [avV x] w5 (by rw [List.getElem?_map, f2 h]; rfl) (hJup _ _ _ hJ E)
  cases hc : cntA doc t kn x with
  | true =>
   obtain ⟨c1, c2, c3⟩ := of_decide_eq_true hc
   refine g1 (cs := x.cells) fun B5 w4 E4 G4 Z5 => ?_
   refine g ?_
   refine RunL.ex rfl rfl rfl (OpE.callV rfl rfl (hy hc w4 xt)) ?_
   rintro _ w6 ⟨rfl, hJ6⟩
   refine g ?_
   exact RunE.weaken sb_ (give hc w6 hJ6)
  | false =>
   have hc' := of_decide_eq_false hc
   by_cases c1 : x.doc = doc
   ·by_cases c2 : x.at_ ≤ t
    ·have c3 : ¬ x.known ≤ kn := fun h => hc' ⟨c1, c2, h⟩
     refine g1 (cs := x.cells) fun B5 w4 E4 G4 Z5 => ?_
     refine g ?_
     exact RunE.weaken sb_ (skip hc w4 E4)
    ·refine g1 (cs := x.cells) fun B5 w4 E4 G4 Z5 => ?_
     refine g ?_
     exact RunE.weaken sb_ (skip hc w4 E4)
   ·refine g1 (cs := x.cells) fun B5 w4 E4 G4 Z5 => ?_
    refine g ?_
    exact RunE.weaken sb_ (skip hc w4 E4)
 ·intro s w3 hJ
  rw [List.take_length] at hJ
  refine g ?_
  refine RunE.fallFn hf_ .nil ?_
  rw [List.length_map]; exact hJ
theorem acounting_ok (doc t kn : Int) (l : List Av) (v : Value) (w : World) (hl : l.length ≤ 100000) (hv : IsL w Av.cells 8 v l) :
  Rets Tryz.prog 187 [v, .int .i64 doc, .int .i64 t, .int .i64 kn] w fun r w' => (∃ F : Nat → Prop, Gives Tryz.prog r ((countA doc t kn l).map fun x => [avV x]) w' F ∧ ∀ k, F k → k < w'.heap.size ∧ (w.heap.size ≤ k ∨ (l ≠ [] ∧ v.ownBlock = some k))) ∧ Ext w w' := by
 obtain ⟨d, cp, rfl⟩ := isSl_slice hv
 refine en Tryz.func187 10 fun hf_ => ?_
 refine g1 (cs := [.slice d l.length cp]) fun B4 w1 E1 G1 Z4 => ?_
 refine g1 (cs := [.int .i64 doc]) fun B5 w2 E2 G2 Z5 => ?_
 refine g1 (cs := [.int .i64 t]) fun B6 w3 E3 G3 Z6 => ?_
 refine g1 (cs := [.int .i64 kn]) fun B7 w4 E4 G4 Z7 => ?_
 refine rt ?_
 have X : Ext w w4 := xt
 have s1 := E1.size
 have s2 := E2.size
 have s3 := E3.size
 refine ⟨⟨_, cntg_gives doc t kn l _ B4 B5 B6 B7 w4 hl (hv.up X) (Z4.up xt) (Z5.up xt) (Z6.up xt) Z7, fun k hk => ?_⟩, X⟩
 have e4 := (Z4.up (xt : Ext w1 w4)).lt
 have e5 := (Z5.up (xt : Ext w2 w4)).lt
 have e6 := (Z6.up (xt : Ext w3 w4)).lt
 have e7 := Z7.lt
 rcases hk with rfl | rfl | rfl | rfl | h
 ·exact ⟨e4, .inl G1⟩
 ·exact ⟨e5, .inl (by omega)⟩
 ·exact ⟨e6, .inl (by omega)⟩
 ·exact ⟨e7, .inl (by omega)⟩
 ·exact ⟨Nat.lt_of_lt_of_le (isL_own hv (by decide) h.1 h.2) X.size, .inr h⟩
end Go.Sg
end
section
set_option maxRecDepth 4000
namespace Go.Apv
open Go.Rn
def sjC (s : Sa) : List Value := [.int .i64 s.1, .int .i64 s.2.1, .int .i64 s.2.2.1, .int .i64 s.2.2.2]
def sjV (s : Sa) : Value := .agg (sjC s).toArray
end Go.Apv
namespace Go.Sg
open Go.Rn Go.Proofs Go.Apv Go.Rec Go.Best Go.RowKit
attribute [local irreducible] Go.Rn.RetsX Go.Rn.RunLN Go.Rn.AsyN Go.Rn.RunL Go.Rn.RunE Go.Rn.Asy Go.Rn.OpV Go.Rn.OpE Go.Rn.ExecE
theorem asjFlat : Flat Tryz.prog 282 [(3, .int .i64), (3, .int .i64), (3, .int .i64), (3, .int .i64)] :=
 ⟨by kernel_rfl, by kernel_rfl, by kernel_rfl, by kernel_rfl, by kernel_rfl, fun x hx => by
  simp only [List.mem_cons, List.not_mem_nil, or_false] at hx
  rcases hx with rfl | rfl | rfl | rfl <;> first | exact ⟨Tryz.underlying3, by kernel_rfl, by kernel_rfl⟩⟩
theorem subj_ok (x : Av) (w : World) : Rets Tryz.prog 188 [avV x] w fun r w' => r = sjV (sjA x) ∧ Ext w w' := by
 refine en Tryz.func188 12 fun hf_ => ?_
 refine g1 (cs := x.cells) fun B1 w1 E1 G1 Z1 => ?_
 refine g ?_
 refine RunL.alloc Tryz.tOk rfl rfl rfl fun B2 w2 a2 => ?_
 have E2 := a2.ext
 refine g ?_
 refine RunL.storeW (vs := sjC (sjA x)) Tryz.tOk rfl rfl rfl rfl rfl (show Blk w2 B2 _ _ from a2.at_) rfl rfl fun w3 t3 => ?_
 have a3 := Added.turn a2 t3
 have Z2 : Blk w3 B2 (sjC (sjA x)) 282 := a3.at_
 have E3 := a3.ext
 refine g ?_
 exact RunE.retFn hf_ (.cell rfl (Loads.agg Tryz.tOk rfl rfl rfl Z2.row) .nil) ⟨rfl, E1.trans E3⟩
instance iApv2_1 (x : Av) : Px 188 [avV x] (sjV (sjA x)) := ⟨fun w => subj_ok x w⟩
end Go.Sg
end
section
set_option maxRecDepth 4000
namespace Go.Sg
open Go.Rn Go.Proofs Go.Apv Go.Rec Go.Best Go.RowKit
attribute [local irreducible] Go.Rn.RetsX Go.Rn.RunLN Go.Rn.AsyN Go.Rn.RunL Go.Rn.RunE Go.Rn.Asy Go.Rn.OpV Go.Rn.OpE Go.Rn.ExecE
theorem avFlat : Flat Tryz.prog 145 [(3, .int .i64), (3, .int .i64), (3, .int .i64), (3, .int .i64), (3, .int .i64), (3, .int .i64), (3, .int .i64), (4, .bool)] :=
 ⟨by kernel_rfl, by kernel_rfl, by kernel_rfl, by kernel_rfl, by kernel_rfl, fun x hx => by
  simp only [List.mem_cons, List.not_mem_nil, or_false] at hx
  rcases hx with rfl | rfl | rfl | rfl | rfl | rfl | rfl | rfl <;> first | exact ⟨Tryz.underlying4, by kernel_rfl, by kernel_rfl⟩ | exact ⟨Tryz.underlying3, by kernel_rfl, by kernel_rfl⟩⟩
instance iApv3_1 (a b : Av) : EqA 145 (avV a) (avV b) (decide (a = b)) := .of avFlat fitsC fitsC (by
 obtain ⟨a1, a2, a3, a4, a5, a6, a7, a8⟩ := a
 obtain ⟨b1, b2, b3, b4, b5, b6, b7, b8⟩ := b
 rw [Bool.eq_iff_iff]; simp [eqAll, veq])
theorem asjKey : KeyOk Tryz.prog 282 sjV fun _ => True := keyOk_flat asjFlat (fun _ => by unfold sjC; exact fitsC) fun a b => by
 obtain ⟨a1, a2, a3, a4⟩ := a
 obtain ⟨b1, b2, b3, b4⟩ := b
 rw [Bool.eq_iff_iff]; simp [eqAll, veq, sjC]
instance iApv3_2 (s : Sa) : KeyOf sjV (sjV s) s := ⟨rfl⟩
instance iApv3_3 : MapA 278 sjV avV zeroA := ⟨⟨_, _, Tryz.underlying278, asjKey, by kernel_rfl⟩⟩
theorem astand_ok (doc t kn : Int) (l : List Av) (v : Value) (w : World) (hl : l.length ≤ 100000) (hv : IsL w Av.cells 8 v l) :
  Rets Tryz.prog 157 [v, .int .i64 doc, .int .i64 t, .int .i64 kn] w fun r w' => w'.ownsRow w.heap.size 145 8 r (standA doc t kn l).length (flat Av.cells (standA doc t kn l)) ∧ Ext w w' := by
 obtain ⟨d, cp, rfl⟩ := isSl_slice hv
 refine en Tryz.func157 63 fun hf_ => ?_
 refine g ?_
 refine RunL.alloc Tryz.tOk rfl rfl rfl fun B8 w1 a1 => ?_
 have E1 := a1.ext
 have Z8 : Blk w1 B8 [.slice none 0 0] 28 := a1.at_
 have G8 := a1.eq
 have l8 := Z8.lt
 clear a1
 refine g ?_
 refine RunL.ex rfl rfl rfl (mm sjV avV) ?_
 rintro _ w2 ⟨R, rfl, gR, E2, M⟩
 refine g1 (cs := [.map (some R)]) fun B9 w3 E3 G9 Z9 => ?_
 have lR := M.lt
 have l9 := Z9.lt
 refine gc (acounting_ok doc t kn l _ w3 hl (hv.up xt)) ?_
 rintro fv w4 ⟨⟨F, hG, hF⟩, E4⟩
 have s1 := E1.size
 have s2 := E2.size
 have s3 := E3.size
 have s4 := E4.size
 have hvo : ∀ k, (Value.slice d l.length cp).ownBlock = some k → l ≠ [] → k < w.heap.size := fun k h1 h2 => isL_own hv (by decide) h2 h1
 have X4 : Ext w w4 := xt
 have M4 : MapW w4 R sjV avV [] := M.up xt
 have Z94 : Blk w4 B9 [.map (some R)] 278 := Z9.up xt
 have Z84 : Blk w4 B8 [.slice none 0 0] 28 := Z8.up xt
 unfold standA
 have hcl : (countA doc t kn l).length ≤ l.length := List.length_filter_le _ _
 generalize hca : countA doc t kn l = ca at hG hcl ⊢
 refine g ?_
 refine RunE.rangeGives (w0 := w4) (F := F) rfl ⟨_, hf_⟩ rfl hG (fun k => k = R) (fun k hk => ?_) (ExtB.refl _ _) (fun ys hx => ?_) rfl
  (fun i w' => MapW w' R sjV avV (lastM sjA Av.at_ (fun _ => true) (ca.take i)) ∧ w4.heap.size + 2 ≤ w'.heap.size ∧ ExtB (fun k => k = R) w4 w') ?_ ?_ ?_ ?_ ?_
 ·obtain ⟨h1, h2⟩ := hF k hk
  refine ⟨fun h => ?_, h1⟩
  rcases h2 with h2 | h2
  ·omega
  ·have := hvo k h2.2 h2.1; omega
 ·obtain ⟨a, -, rfl⟩ := List.mem_map.1 hx; rfl
 ·intro w' E hsz; exact ⟨M4.up E, by omega, ExtB.of_ext E⟩
 ·rintro i u h; exact h.2.2
 ·rintro i u u' ⟨h1, h2, h3⟩ E
  exact ⟨h1.ext E (by omega), by have := E.size; omega, h3.write E (by intro k hk hlt; omega)⟩
 ·rintro i ys u lp hx ⟨hM, hsz, hE⟩ hL hs
  obtain ⟨x, hxl, rfl⟩ : ∃ x, ca[i]? = some x ∧ ys = [avV x] := by
   simp only [List.getElem?_map, Option.map_eq_some_iff] at hx
   obtain ⟨a, h, rfl⟩ := hx; exact ⟨a, h, rfl⟩
  rw [lastM_snoc sjA Av.at_ (fun _ => true) hxl]
  generalize lastM sjA Av.at_ (fun _ => true) (ca.take i) = m at hM ⊢
  have hLl := lt_of_get hL.l
  simp only [parEnv]
  refine g1 (cs := x.cells) fun B10 u2 XA G10 Z10 => ?_
  refine RunE.beginR (hL.up XA) hs (by omega) fun u3 t3 hL3 => ?_
  have sA := XA.size
  have sT := t3.size
  replace Z10 := Z10.ext t3 (by omega)
  have l10 := Z10.lt
  replace hM := (hM.up XA).ext t3 (by omega)
  have X : ExtB (fun k => k = R) w4 u3 := (hE.trans (ExtB.of_ext XA)).write t3 (by intro k hk hlt; omega)
  have U9 := Z94.ext X (by omega)
  clear hL XA t3 hx hE
  obtain ⟨zz, hzz⟩ : ∃ zz, zz = (getM (sjA x) m).getD zeroA := ⟨_, rfl⟩
  obtain ⟨okk, hokk⟩ : ∃ okk, okk = (getM (sjA x) m).isSome := ⟨_, rfl⟩
  have n0 : u3.heap.size ≤ u3.heap.size := Nat.le_refl _
  refine g ?_
  refine Go.RnW.RunE.draw [] (Go.RnW.onlyT 145 u3.heap.size) (Go.RnW.onlyT_ok _ _) mix' ?_
  intro wd Xd
  have hnR : ∀ {w' : World} {k : Nat}, Go.RnW.isT 145 u3.heap.size w' k → u3.heap.size ≤ k := fun h => h.1
  refine Go.RnW.Asy.vS rfl rfl rfl rfl (fun w' s => OpV.load1 Tryz.tOk rfl rfl rfl (((U9.up Xd).ext s.1 fun h => by have := hnR h; have := U9.lt; omega).cell (i := 0) rfl)) ?_
  refine Go.RnW.Asy.vS rfl rfl rfl rfl (fun w' s => OpV.loadN Tryz.tOk rfl rfl rfl rfl (((Z10.up Xd).ext s.1 fun h => by have := hnR h; omega).row)) ?_
  refine Go.RnW.Asy.eS rfl rfl rfl rfl (fun w' s => OpE.call rfl (subj_ok x w')) ?_
  refine Go.RnW.Asy.vS rfl rfl rfl rfl (fun w' s => lk2 rfl rfl ((hM.up Xd).ext s.1 fun h => by have := hnR h; have := hM.lt; omega) (ExtB.refl _ _) inferInstance inferInstance) ?_
  rw [← hzz, ← hokk]
  refine Go.RnW.Asy.pure Tryz.tOk rfl rfl rfl ?_
  refine Go.RnW.Asy.pure Tryz.tOk rfl rfl rfl ?_
  refine Go.RnW.Asy.pure Tryz.tOk rfl rfl rfl ?_
  refine Go.RnW.Asy.sat0 (Go.RnW.newT 145 u3.heap.size 8) rfl rfl rfl rfl (fun r w' w'' _ e h => h.keep e) (fun w' s => ?_) ?_
  ·refine OpE.mono (OpE.allocX Tryz.tOk rfl) ?_ fun _ _ h => h
   rintro _ w'' ⟨B, rfl, a⟩
   exact ⟨a.ext, B, _, rfl, by have := a.eq; have := s.1.size; have := Xd.size; omega, a.at_, rfl⟩
  refine Go.RnW.Asy.wri1 0 (fun r w' => ∃ B, r = .pointer (some ⟨B, 0, none⟩) ∧ u3.heap.size ≤ B ∧ Blk w' B zz.cells 145) rfl rfl (fun r w' w'' _ e h => ?_) (fun w' y e hy => ?_) ?_
  ·obtain ⟨B, h1, h2, h3⟩ := h; exact ⟨B, h1, h2, h3.up e⟩
  ·obtain ⟨B, cs, rfl, hB, hBh, hsz'⟩ := hy
   have hb : Blk w' B cs.toList 145 := by simpa [Blk] using hBh
   refine OpE.mono (OpE.storeX (vs := zz.cells) Tryz.tOk rfl rfl rfl rfl hb (by rw [Array.length_toList, hsz']; rfl) rfl) ?_ fun _ _ h => h
   rintro _ w'' t
   exact ⟨Go.RnW.onlyT.turn hBh hsz' hB t rfl, B, rfl, hB, t.at_⟩
  refine Go.RnW.Asy.tail1 0 8 (by kernel_rfl) (by kernel_rfl) rfl rfl rfl fun we x' Xe hV _ => ?_
  obtain ⟨B11, rfl, gB11, Z11⟩ := hV
  simp only [List.eraseIdx_cons_zero, satsAll]
  have EA : Ext u3 we := Xd.write Xe.1 (by intro k hk hlt; have := hnR hk; omega)
  have sE := EA.size
  clear Xd Xe hnR n0
  have l11 := Z11.lt
  have skip : lastStep sjA Av.at_ (fun _ => true) m x = m → ∀ w9, Ext we w9 → (MapW w9 R sjV avV (lastStep sjA Av.at_ (fun _ => true) m x) ∧ w4.heap.size + 2 ≤ w9.heap.size ∧ ExtB (fun k => k = R) w4 w9) := fun h w9 e => ⟨by rw [h]; exact hM.up (EA.trans e), by have := e.size; omega, X.trans (ExtB.of_ext (EA.trans e))⟩
  have set : lastStep sjA Av.at_ (fun _ => true) m x = setM (sjA x) x m → ∀ w9 w11, Ext we w9 → ExtB (· = R) w9 w11 → MapW w11 R sjV avV (setM (sjA x) x m) → (MapW w11 R sjV avV (lastStep sjA Av.at_ (fun _ => true) m x) ∧ w4.heap.size + 2 ≤ w11.heap.size ∧ ExtB (fun k => k = R) w4 w11) := fun h w9 w11 e e' hm' => ⟨by rw [h]; exact hm', by have := e.size; have := e'.size; omega, (X.trans (ExtB.of_ext (EA.trans e))).trans e'⟩
  unfold lastStep newer at skip set
  have U9' := U9.up EA
  have hM' := hM.up EA
  have Z10' := Z10.up EA
  have goset : ∀ w9, Ext we w9 → lastStep sjA Av.at_ (fun _ => true) m x = setM (sjA x) x m → True := fun _ _ _ => trivial
  cases hg : getM (sjA x) m with
  | none =>
   rw [hg] at hzz hokk skip set
   simp only [Option.getD_none, Option.isSome_none] at hzz hokk
   subst hzz hokk
   refine g ?_
   refine RunE.draw (fun _ => False) mix' ?_
   intro wd6 Xd6
   refine ga ?_
   refine Asy.tail (by decide +kernel) fun we6 Xe6 => ?_
   simp only [satsAll]
   have E6 : Ext we we6 := Xd6.trans Xe6
   refine RunL.exN rfl rfl (ms rfl rfl rfl hM' E6 inferInstance inferInstance (u := x) rfl) ?_
   rintro _ w12 ⟨M12, E12, -⟩
   refine g ?_
   have hh := set rfl we6 w12 E6 E12 M12
   exact RunE.endR (by unfold lastStep newer; rw [hg]; exact hh) ((hL3.up (EA.trans E6)).ext E12 (by omega) (by omega))
  | some y =>
   rw [hg] at hzz hokk skip set
   simp only [Option.getD_some, Option.isSome_some] at hzz hokk
   subst hzz hokk
   by_cases hle : zz.at_ ≤ x.at_
   ·refine g ?_
    refine RunE.draw (fun _ => False) mix' ?_
    intro wd6 Xd6
    refine ga ?_
    refine Asy.tail (by decide +kernel) fun we6 Xe6 => ?_
    simp only [satsAll]
    have E6 : Ext we we6 := Xd6.trans Xe6
    refine RunL.exN rfl rfl (ms rfl rfl rfl hM' E6 inferInstance inferInstance (u := x) rfl) ?_
    rintro _ w12 ⟨M12, E12, -⟩
    refine g ?_
    have hh := set (by simp [hle]) we6 w12 E6 E12 M12
    exact RunE.endR (by unfold lastStep newer; rw [hg]; exact hh) ((hL3.up (EA.trans E6)).ext E12 (by omega) (by omega))
   ·refine g ?_
    have hh := skip (by simp [hle]) we (ExtB.refl _ _)
    exact RunE.endR (by unfold lastStep newer; rw [hg]; exact hh) (hL3.up EA)
 ·rintro w5 ⟨hM, hsz, hE⟩ hD1
  rw [List.length_map, List.take_length] at hM
  change MapW w5 R sjV avV (lastA' ca) at hM
  generalize lastA' ca = m at hM ⊢
  have Y9 := Z94.ext hE (by omega)
  have Y8 := Z84.ext hE (by omega)
  have X5 : Ext w w5 := X4.write hE (by intro k hk hlt; omega)
  clear hG hF M4 Z94 Z84 M Z9 Z8
  refine g ?_
  refine gc (acounting_ok doc t kn l _ w5 hl (hv.up X5)) ?_
  rintro fv2 w6 ⟨⟨F2, hG2, hF2⟩, E6⟩
  rw [hca] at hG2
  have s6 := E6.size
  have M6 := hM.up E6
  have V9 := Y9.up E6
  have V8 := Y8.up E6
  have hD6 : w6.heap[w4.heap.size]? = some (.deferred (some [])) := obj_ext hD1 E6 id
  refine g ?_
  refine RunE.rangeGives (w0 := w6) (F := F2) rfl ⟨_, hf_⟩ rfl hG2 (fun k => k = B8) (fun k hk => ?_) (ExtB.refl _ _) (fun ys hx => ?_) rfl
   (fun i w' => (∃ s, Blk w' B8 [s] 28 ∧ w'.ownsRow (w6.heap.size + 2) 145 8 s ((ca.take i).filter (stA m)).length (flat Av.cells ((ca.take i).filter (stA m)))) ∧ w6.heap.size + 2 ≤ w'.heap.size ∧ ExtB (fun k => k = B8) w6 w') ?_ ?_ ?_ ?_ ?_
  ·obtain ⟨h1, h2⟩ := hF2 k hk
   refine ⟨fun h => ?_, h1⟩
   have hs5 := hE.size
   rcases h2 with h2 | h2
   ·omega
   ·have := hvo k h2.2 h2.1; omega
  ·obtain ⟨a, -, rfl⟩ := List.mem_map.1 hx; rfl
  ·intro w' E hsz; exact ⟨⟨_, V8.up E, World.ownsRow_nil _ _ _ _⟩, by omega, ExtB.of_ext E⟩
  ·rintro i u h; exact h.2.2
  ·rintro i u u' ⟨⟨s, h1, ho⟩, h2, h3⟩ E
   have hs5 := hE.size
   exact ⟨⟨s, h1.ext E (by omega), ownsRow_ext ho E fun k hk h => by have := ownsRow_ge ho hk; omega⟩, by have := E.size; omega, h3.write E (by intro k hk hlt; omega)⟩
  ·rintro i ys u lp hx ⟨⟨s, h8, ho⟩, hsz2, hE2⟩ hL hs
   have hs5 := hE.size
   obtain ⟨x, hxl, rfl⟩ : ∃ x, ca[i]? = some x ∧ ys = [avV x] := by
    simp only [List.getElem?_map, Option.map_eq_some_iff] at hx
    obtain ⟨a, h, rfl⟩ := hx; exact ⟨a, h, rfl⟩
   obtain ⟨f1, -⟩ := filter_take (stA m) hxl
   have hlen : ((ca.take i).filter (stA m)).length ≤ 100000 := Nat.le_trans (List.length_filter_le _ _) (by rw [List.length_take]; omega)
   rw [f1]
   generalize (ca.take i).filter (stA m) = acc at ho hlen ⊢
   have hLl := lt_of_get hL.l
   simp only [parEnv]
   refine g1 (cs := x.cells) fun B13 u2 XA G13 Z13 => ?_
   refine RunE.beginR (hL.up XA) hs (by omega) fun u3 t3 hL3 => ?_
   have sA := XA.size
   have sT := t3.size
   replace Z13 := Z13.ext t3 (by omega)
   have h8' := (h8.up XA).ext t3 (by omega)
   have X : ExtB (fun k => k = B8) w6 u3 := (hE2.trans (ExtB.of_ext XA)).write t3 (by intro k hk hlt; omega)
   have U9 := V9.ext X (by omega)
   have UM := M6.ext X (fun h => by omega)
   have hO := ownsRow_ext (ownsRow_ext ho XA (fun _ _ h => h)) t3 (fun k hk h => by have := ownsRow_ge ho hk; omega)
   clear hL XA t3 hx hE2 h8 ho
   have hst : stA m x = (!x.gone && decide ((getM (sjA x) m).getD zeroA = x)) := rfl
   have skip : stA m x = false → ∀ w9, Ext u3 w9 → ((∃ s, Blk w9 B8 [s] 28 ∧ w9.ownsRow (w6.heap.size + 2) 145 8 s (acc ++ if stA m x then [x] else []).length (flat Av.cells (acc ++ if stA m x then [x] else []))) ∧ w6.heap.size + 2 ≤ w9.heap.size ∧ ExtB (fun k => k = B8) w6 w9) := fun h w9 e => ⟨⟨s, h8'.up e, by rw [h]; simpa using ownsRow_ext hO e (fun _ _ h => h)⟩, by have := e.size; omega, X.trans (ExtB.of_ext e)⟩
   cases h1 : x.gone with
   | true =>
    refine gx fun w9 E9 => ?_
    exact RunE.endR (skip (by rw [hst, h1]; rfl) w9 E9) (hL3.up E9)
   | false =>
    cases h2 : decide ((getM (sjA x) m).getD zeroA = x) with
    | false =>
     refine gx fun w9 E9 => ?_
     exact RunE.endR (skip (by rw [hst, h1, h2]; rfl) w9 E9) (hL3.up E9)
    | true =>
     have hst' : stA m x = true := by rw [hst, h1, h2]; rfl
     rw [hst', if_pos rfl, flat_append, List.length_append, flat_one]
     refine gx fun w9 E9 => ?_
     have s9 := E9.size
     refine ap1 encAv x hO E9 (by omega) (by omega) rfl rfl rfl rfl rfl rfl rfl rfl rfl rfl (fun _ => rfl) rfl (fun _ => rfl) fun q1 y' w10 O10 E10 _ => ?_
     have h810 := h8'.ext E10 (fun h => by have := ownsRow_ge hO h; omega)
     have L10 := hL3.ext E10 (fun h => by have := ownsRow_ge hO h; omega) (fun h => by have := ownsRow_ge hO h; omega)
     have s10 := E10.size
     obtain ⟨dy, cy, rfl⟩ := isSl_slice (isSl_own O10)
     refine g ?_
     refine RunL.store Tryz.tOk rfl rfl rfl rfl rfl h810 rfl rfl fun w11 t11 => ?_
     refine g ?_
     refine RunE.endR ⟨⟨_, t11.at_, ownsRow_ext O10 t11.ext (fun k hk h => by have := ownsRow_ge O10 hk; have h : k = B8 := h; omega)⟩, by have := t11.ext.size; omega, (X.write E10 (by intro k hk hlt; have := ownsRow_ge hO hk; omega)).trans t11.ext⟩ (L10.ext t11.ext (by omega) (by omega))
  ·rintro w7 ⟨⟨s, h8, ho⟩, hsz2, hE2⟩ hD2
   have hs5 := hE.size
   rw [List.length_map, List.take_length] at ho
   obtain ⟨ds', cs', rfl⟩ := isSl_slice (isSl_own ho)
   have hD7 : w7.heap[w4.heap.size]? = some (.deferred (some [])) := obj_ext hD6 hE2 (by omega)
   refine g ?_
   refine RunL.store Tryz.tOk rfl rfl rfl rfl rfl h8 rfl rfl fun w8 t8 => ?_
   have h88 : Blk w8 B8 [.slice ds' (ca.filter (stA m)).length cs'] 28 := t8.at_
   have ho8 := ownsRow_ext ho t8.ext (fun k hk h => by have := ownsRow_ge ho hk; have h : k = B8 := h; omega)
   have X8 : Ext w w8 := ((X5.trans E6).write hE2 (by intro k hk hlt; omega)).write t8.ext (by intro k hk hlt; have hk : k = B8 := hk; omega)
   refine g ?_
   refine RunE.retFnM [w6.heap.size, w4.heap.size] hf_ ?_ (by simp; omega) fun w9 e9 => ?_
   ·intro D hD
    simp only [List.mem_cons, List.not_mem_nil, or_false] at hD
    rcases hD with rfl | rfl
    ·exact obj_ext hD2 t8.ext (by omega)
    ·exact obj_ext hD7 t8.ext (by omega)
   ·have hne : ∀ k, k ∈ [w6.heap.size, w4.heap.size] → k = w6.heap.size ∨ k = w4.heap.size := fun k hk => by simpa using hk
    refine ⟨_, .cell rfl (Loads.scalar Tryz.tOk rfl rfl ((h88.ext e9 fun h => by have := hne _ h; omega).cell (i := 0) rfl)) .nil, ownsRow_base (ownsRow_ext ho8 e9 fun k hk h => by have := hne _ h; have := ownsRow_ge ho8 hk; omega) (by have := X5.size; omega), X8.write e9 (by intro k hk hlt; have := hne _ hk; omega)⟩
end Go.Sg
end
section
set_option maxRecDepth 4000
namespace Go.Rn
open Go.RowKit
theorem setAt_take : ∀ (vs cs : List Value) (off m : Nat), m ≤ off → (setAt cs off vs).take m = cs.take m
 | [], _, _, _, _ => rfl
 | v :: r, cs, off, m, h => by
  show (setAt (cs.set off v) (off + 1) r).take m = _
  rw [setAt_take r _ _ m (by omega), List.take_set]
  exact List.set_eq_of_length_le (by rw [List.length_take]; omega)
theorem OpE.clearS {P : Program} {w : World} {env : Env} {dst : Option Tmp} {ty : TypeId} {pos : String} {after : Array Edge} {guard : Option (Nat × Bool)} {T : Tab} (hT : T.Ok P) {t e bt : TypeId} {sz : Nat} {ag : Bool} {s bb : Nat} {z : List Value} {a u : Bool} {ie : TI} {x : Operand} {b o n c m : Nat} {cs : List Value}
  (ht : T.get t = some ⟨.slc sz ag e, s, bb, z, a, u⟩) (he : T.get e = some ie) (hz : ie.zero.length = sz) (hp : ie.zero.all plainV = true) (hx : evO env x = some (.slice (some ⟨b, o, none⟩) n c)) (hb : Blk w b cs bt) (hl : o + n * sz ≤ cs.length) (hm : m ≤ o) :
  OpE P env w ⟨dst, .call ⟨.builtin .clear, #[x], #[t]⟩, ty, pos, after, guard⟩ (fun _ w' => (∃ cs', Blk w' b cs' bt ∧ cs'.take m = cs.take m) ∧ ExtB (fun k => k = b) w w') fun _ _ => False := by
 obtain ⟨hu, hc⟩ := TD.of_slc (TI.tdof (hT.get _ _ ht)).symm
 obtain ⟨j, dd, zv, hj, hd, hzv, h1, h2, h3, h4, h5, _⟩ := TI.inv (hT.get _ _ he)
 have call : ∀ {v' : Value} {w' : World}, (Builtin.clear_ #[t] ty #[.slice (some ⟨b, o, none⟩) n c]).run P w = .ok v' w' → ∀ ρ : Operand → Value, (∀ x v, evO env x = some v → ρ x = v) →
   ∃ s : Sem Value, execOp ρ ⟨dst, .call ⟨.builtin .clear, #[x], #[t]⟩, ty, pos, after, guard⟩ = (do pure (.value (← s)) : Sem Next) ∧ s.run P w = .ok v' w' := fun hr ρ hρ =>
  ⟨_, by simp only [execOp, resolve, List.map_toArray, List.map_cons, List.map_nil, hρ _ _ hx]; rfl, hr⟩
 cases n with
 | zero => exact .of_run (w' := w) (v := .tuple #[]) ⟨⟨cs, hb, rfl⟩, ExtB.refl _ _⟩ (call (by simp [Builtin.clear_, run_underlying hu]))
 | succ n =>
  have hzv' : (zeroValue e).run P w = .ok zv w := by unfold zeroValue; rw [run_bind _ _ (run_typeInfo hj), hzv]; rfl
  have hzs : (Builtin.zeroCells zv.cells (n + 1)).toList = zerosL ie.zero (n + 1) := by rw [h3]; exact range_zeros _ _
  have hst := run_storeCells (P := P) (zerosL ie.zero (n + 1)) 0 cs hb (by rw [zerosL_length, hz]; omega) (fun v hv => by
   have key : ∀ m, ∀ v ∈ zerosL ie.zero m, plainV v = true := by
    intro m
    induction m with
    | zero => intro v hv; simp [zerosL] at hv
    | succ m ih =>
     intro v hv
     simp only [zerosL, List.mem_append] at hv
     rcases hv with hv | hv
     ·exact List.all_eq_true.1 hp v hv
     ·exact ih v hv
   exact key _ v hv)
  have hrun : (Builtin.clear_ #[t] ty #[.slice (some ⟨b, o, none⟩) (n + 1) c]).run P w = .ok (.tuple #[]) (World.setObj w b (.cells (setAt cs (o + 0) (zerosL ie.zero (n + 1))).toArray bt (0, 0))) := by
   simp [Builtin.clear_, run_underlying hu, hzv', hzs, hst]
  have T := turned_set w hb.lt (.cells (setAt cs (o + 0) (zerosL ie.zero (n + 1))).toArray bt (0, 0))
  exact .of_run ⟨⟨_, T.at_, setAt_take _ _ _ _ (by omega)⟩, T.ext⟩ (call hrun)
end Go.Rn
namespace Go.Sg
open Go.Rn Go.Proofs Go.Apv Go.Rec Go.Best Go.RowKit
attribute [local irreducible] Go.Rn.RetsX Go.Rn.RunLN Go.Rn.AsyN Go.Rn.RunL Go.Rn.RunE Go.Rn.Asy Go.Rn.OpV Go.Rn.OpE Go.Rn.ExecE
theorem idxFrom_spec {α : Type} (p : α → Bool) : ∀ (l : List α) (k : Nat), (idxFrom p (k : Int) l = -1 ∧ l.filter (fun x => !p x) = l) ∨ ∃ i x, l[i]? = some x ∧ p x = true ∧ idxFrom p (k : Int) l = ((k + i : Nat) : Int) ∧ (l.take i).filter (fun x => !p x) = l.take i
 | [], k => .inl ⟨rfl, rfl⟩
 | x :: r, k => by
  simp only [idxFrom]
  cases h : p x with
  | true => exact .inr ⟨0, x, rfl, h, by simp, rfl⟩
  | false =>
   have := idxFrom_spec p r (k + 1)
   rw [show (((k + 1 : Nat) : Int)) = (k : Int) + 1 by omega] at this
   rcases this with ⟨h1, h2⟩ | ⟨i, y, h1, h2, h3, h4⟩
   ·refine .inl ⟨by simpa using h1, ?_⟩
    rw [List.filter_cons, h]; simp [h2]
   ·refine .inr ⟨i + 1, y, by simpa using h1, h2, ?_, ?_⟩
    ·simp only [Bool.false_eq_true, if_false]; rw [h3]; omega
    ·rw [List.take_succ_cons, List.filter_cons, h]; simp [h4]
theorem aidx_ok (l : List Av) (p : Av → Bool) (v f : Value) (w : World) (hl : l.length ≤ 100000) (hv : IsL w Av.cells 8 v l) (hf : ∀ x ∈ l, ∀ w', Ext w w' → FnV Tryz.prog f [avV x] w' (fun r w'' => r = .bool (p x) ∧ Ext w' w'') fun _ _ => False) :
  Rets Tryz.prog 186 [v, f] w fun r w' => r = .int .i64 (idxF p l) ∧ Ext w w' := by
 obtain ⟨d, cp, rfl⟩ := isSl_slice hv
 refine en Tryz.func186 19 fun hf_ => ?_
 refine g ?_
 refine rangeL hv encAv 6 7 8 (fun _ : Unit => [(0, .slice d l.length cp), (1, f)]) (fun i _ w' => idxF p l = idxFrom p (i : Int) (l.drop i) ∧ Ext w w') () sb_ ⟨by simp [idxF], ExtB.refl _ _⟩ ?_ ?_
 ·rintro i ⟨⟩ x w1 hx ⟨h1, X⟩ b o cap hve hrx hlt again
  cases hve
  have hd : l.drop i = x :: l.drop (i + 1) := by
   obtain ⟨hi, e⟩ := List.getElem?_eq_some_iff.1 hx
   rw [List.drop_eq_getElem_cons hi, e]
  rw [hd] at h1
  simp only [idxFrom] at h1
  refine g ?_
  refine RunL.ex rfl rfl rfl (OpE.callV rfl rfl (hf x (List.mem_of_getElem? hx) w1 X)) ?_
  rintro _ w2 ⟨rfl, E2⟩
  cases hp : p x with
  | true =>
   rw [hp, if_pos rfl] at h1
   refine rt ?_
   exact ⟨by rw [h1]; rfl, xt⟩
  | false =>
   rw [hp, if_neg (by simp)] at h1
   refine g ?_
   exact RunE.weaken sb_ (again () w2 ⟨by rw [h1]; simp, xt⟩)
 ·rintro ⟨⟩ w1 ⟨h1, X⟩
  rw [List.drop_length] at h1
  refine rt ?_
  exact ⟨by rw [h1]; rfl, X⟩
theorem adel_ok (l : List Av) (p : Av → Bool) (v f : Value) (base : Nat) (w : World) (hl : l.length ≤ 100000) (hO : w.ownsRow base 145 8 v l.length (flat Av.cells l)) (hf : ∀ x ∈ l, ∀ w', ExtB (fun k => base ≤ k) w w' → FnV Tryz.prog f [avV x] w' (fun r w'' => r = .bool (p x) ∧ Ext w' w'') fun _ _ => False) :
  Rets Tryz.prog 156 [v, f] w fun r w' => (IsL w' Av.cells 8 r (l.filter fun x => !p x) ∧ ∀ k, r.ownBlock = some k → base ≤ k) ∧ ExtB (fun k => base ≤ k) w w' := by
 have hv : IsL w Av.cells 8 v l := isSl_own hO
 obtain ⟨d, cp, rfl⟩ := isSl_slice hv
 refine en Tryz.func156 42 fun hf_ => ?_
 refine gc (aidx_ok l p _ f w hl hv (fun x hx w' e => hf x hx w' (ExtB.of_ext e))) ?_
 rintro _ w1 ⟨rfl, E1⟩
 rcases idxFrom_spec p l 0 with ⟨h1, h2⟩ | ⟨i0, x0, h1, h2, h3, h4⟩
 ·rw [show idxF p l = -1 from h1, h2]
  refine rt ?_
  exact ⟨⟨hv.up E1, fun k hk => ownsRow_ge hO hk⟩, ExtB.of_ext E1⟩
 rw [show idxF p l = ((0 + i0 : Nat) : Int) from h3, Nat.zero_add]
 have hi0 : i0 < l.length := (List.getElem?_eq_some_iff.1 h1).1
 rcases hO.2 with ⟨-, h0⟩ | ⟨g0, cap, cur, hve, hbg, hg0, hnc, hcm, hcs, htake⟩
 ·exact absurd h0 (by omega)
 cases hve
 obtain ⟨tail, htail⟩ : ∃ tail, cur.toList = flat Av.cells l ++ tail := ⟨cur.toList.drop (l.length * 8), by rw [← htake, List.take_append_drop]⟩
 have Z1 : Blk w1 g0 (flat Av.cells l ++ tail) 145 := by
  have : Blk w g0 cur.toList 145 := by simpa [Blk] using hg0
  rw [htail] at this; exact this.up E1
 have lg := Z1.lt
 have hgl : g0 < w.heap.size := lt_of_get hg0
 refine g ?_
 refine RunE.loop (ι := Nat × Nat × List Av) (fun s => [(0, .slice (some ⟨g0, 0, none⟩) l.length cp), (1, f), (5, .int .i64 (s.1 : Int)), (6, .int .i64 (s.2.1 : Int))])
  (fun s w' => s.1 < s.2.1 ∧ s.2.1 ≤ l.length ∧ s.2.2.length = l.length ∧ s.2.2.take s.1 = (l.take s.2.1).filter (fun x => !p x) ∧ s.2.2.drop s.2.1 = l.drop s.2.1 ∧ Blk w' g0 (flat Av.cells s.2.2 ++ tail) 145 ∧ ExtB (fun k => k = g0) w w') (fun s => l.length - s.2.1) (i0, i0 + 1, l) sb_ ⟨by simp, hi0, rfl, by
   simp only
   rw [List.take_add_one, h1, List.filter_append, h4]; simp [h2], rfl, Z1, ExtB.of_ext E1⟩ ?_
 rintro ⟨a, j, l'⟩ w2 ⟨haj, hjl, hll, htk, hdr, Z2, X2⟩ again
 simp only at haj hjl hll htk hdr Z2 again ⊢
 have hbase : ExtB (fun k => base ≤ k) w w2 := X2.mono fun k _ h => by have h : k = g0 := h; omega
 by_cases hlt : j < l.length
 ·obtain ⟨x, hx⟩ : ∃ x, l[j]? = some x := ⟨_, List.getElem?_eq_getElem hlt⟩
  have hx' : l'[j]? = some x := by
   have e1 : (l'.drop j)[0]? = (l.drop j)[0]? := by rw [hdr]
   rw [List.getElem?_drop, List.getElem?_drop] at e1
   rw [← hx]; simpa using e1
  have hR : Row w2 g0 0 (flat Av.cells l') := fun i v hv => Z2.row i v (by rw [List.getElem?_append_left (List.getElem?_eq_some_iff.1 hv).1]; exact hv)
  have hrx := flat_row encAv hR hx'
  refine g1 (cs := x.cells) fun B7 w3 E3 G7 Z7 => ?_
  refine g ?_
  refine RunL.ex rfl rfl rfl (OpE.callV rfl rfl (hf x (List.mem_of_getElem? hx) w3 (hbase.trans (ExtB.of_ext E3)))) ?_
  rintro _ w4 ⟨rfl, E4⟩
  have X4 := X2.trans (ExtB.of_ext (S := fun k => k = g0) (E3.trans E4))
  have Z4 := Z2.up (E3.trans E4)
  have hdr1 : l'.drop (j + 1) = l.drop (j + 1) := by
   have := congrArg (List.drop 1) hdr
   rwa [List.drop_drop, List.drop_drop] at this
  cases hp : p x with
  | true =>
   refine g ?_
   refine RunE.weaken sb_ (again (a, j + 1, l') w4 (by simp only; omega) ⟨by simp only; omega, hlt, hll, ?_, hdr1, Z4, X4⟩)
   simp only
   rw [htk, List.take_add_one, hx, List.filter_append]; simp [hp]
  | false =>
   have Z7' := Z7.up E4
   have hset : ∀ (T : List Value), setAt (flat Av.cells l' ++ T) (0 + a * 8) x.cells = flat Av.cells (l'.set a x) ++ T := fun T => by
    have hal : a < l'.length := by omega
    have e1 : l' = l'.take a ++ l'[a] :: l'.drop (a + 1) := by rw [← List.drop_eq_getElem_cons hal, List.take_append_drop]
    have e2 : l'.set a x = l'.take a ++ x :: l'.drop (a + 1) := List.set_eq_take_append_cons_drop.trans (by rw [if_pos hal])
    have e3 : (flat Av.cells (l'.take a)).length = 0 + a * 8 := by rw [flat_length encAv, List.length_take, Nat.min_eq_left (by omega), Nat.zero_add]
    rw [e2, flat_append, flat_cons, ← e3]
    conv => lhs; arg 1; rw [e1, flat_append, flat_cons]
    rw [List.append_assoc, List.append_assoc, List.append_assoc, List.append_assoc]
    exact setAt_mid3X _ _ _ _ rfl
   refine g ?_
   refine RunL.store Tryz.tOk rfl rfl rfl rfl rfl Z4 ?_ rfl fun w5 t5 => ?_
   ·rw [Nat.ble_eq, List.length_append, flat_length encAv]
    show 0 + a * 8 + 8 ≤ _
    have : (a + 1) * 8 ≤ l'.length * 8 := Nat.mul_le_mul_right 8 (by omega)
    omega
   have T5 : ExtB (fun k => k = g0) w4 w5 := t5.ext
   have Z5 : Blk w5 g0 (flat Av.cells (l'.set a x) ++ tail) 145 := by rw [← hset]; exact t5.at_
   refine g ?_
   refine RunE.weaken sb_ (again (a + 1, j + 1, l'.set a x) w5 (by simp only; omega) ⟨by simp only; omega, hlt, by simp only [List.length_set]; exact hll, ?_, ?_, Z5, X4.trans T5⟩)
   ·simp only
    rw [List.take_add_one, List.getElem?_set_self (by omega), List.take_set, List.set_eq_of_length_le (by rw [List.length_take]; omega), htk, List.take_add_one (l := l), hx, List.filter_append]
    simp [hp]
   ·simp only
    rw [List.drop_set_of_lt (by omega)]; exact hdr1
 ·obtain rfl : j = l.length := by omega
  rw [List.take_length] at htk
  refine g ?_
  refine RunL.val rfl rfl rfl (OpV.sliceS (lo := a) (hi := l.length) (m := cp) Tryz.tOk rfl rfl (.some rfl rfl) .none .none (.inl rfl) (by omega) hnc (Nat.le_refl _)) ?_
  refine RunL.exN rfl rfl (OpE.clearS (m := a * 8) Tryz.tOk rfl rfl rfl rfl rfl Z2 ?_ ?_) ?_
  ·rw [List.length_append, flat_length encAv, hll]
   have : offOf 0 a cp 8 ≤ a * 8 := by unfold offOf; split <;> omega
   have e : (l.length - a) * 8 + a * 8 = l.length * 8 := by rw [← Nat.add_mul]; congr 1; omega
   omega
  ·unfold offOf; split
   ·omega
   ·omega
  rintro _ w3 ⟨⟨cs', Z3, htk3⟩, E3⟩
  refine g ?_
  refine RunL.val rfl rfl rfl (OpV.sliceSq (lo := 0) (hi := a) (q := 0) (len := a) (cap := cp) Tryz.tOk rfl rfl .none (.some rfl rfl) (Nat.zero_le _) (by omega) (offOf_zero _ _ _) rfl rfl) ?_
  refine rt ?_
  refine ⟨⟨?_, fun k hk => by cases hk; exact hbg⟩, hbase.trans (E3.mono fun k _ h => by have h : k = g0 := h; omega)⟩
  have hlen : (l.filter fun x => !p x).length = a := by rw [← htk, List.length_take]; omega
  unfold IsL
  rw [hlen]
  refine .row (fun i v hv => ?_) (by rw [flat_length encAv, hlen]) (by omega)
  refine Z3.row i v ?_
  have hi : i < a * 8 := by have := (List.getElem?_eq_some_iff.1 hv).1; rwa [flat_length encAv, hlen] at this
  have e : cs'[i]? = (cs'.take (a * 8))[i]? := by rw [List.getElem?_take_of_lt hi]
  rw [e, htk3, List.getElem?_take_of_lt hi, ← hv, ← htk]
  have e4 : flat Av.cells l' = flat Av.cells (l'.take a) ++ flat Av.cells (l'.drop a) := by rw [← flat_append, List.take_append_drop]
  rw [e4, List.append_assoc, List.getElem?_append_left (by rw [flat_length encAv, List.length_take]; omega)]
end Go.Sg
end
section
set_option maxRecDepth 4000
namespace Go.Sg
open Go.Rn Go.Proofs Go.Apv Go.Rec Go.Best Go.RowKit
attribute [local irreducible] Go.Rn.RetsX Go.Rn.RunLN Go.Rn.AsyN Go.Rn.RunL Go.Rn.RunE Go.Rn.Asy Go.Rn.OpV Go.Rn.OpE Go.Rn.ExecE
theorem acnt1_ok (begun think t : Int) (y : Av) (b8 b10 b9 : Nat) (w : World) (hy : 0 ≤ y.at_ ∧ y.at_ ≤ 1099511627775) (ht : 0 ≤ t ∧ t ≤ 1099511627775) (Y8 : Blk w b8 [.int .i64 begun] 3) (Y10 : Blk w b10 [.int .i64 t] 3) (Y9 : Blk w b9 [.int .i64 think] 3) :
  Rets Tryz.prog 158 [avV y, .pointer (some ⟨b8, 0, none⟩), .pointer (some ⟨b10, 0, none⟩), .pointer (some ⟨b9, 0, none⟩)] w fun r w' => r = .bool (!keepA begun think t y) ∧ Ext w w' := by
 unfold keepA
 refine en Tryz.func158 18 fun hf_ => ?_
 refine g1 (cs := y.cells) fun B4 w1 E1 G4 Z4 => ?_
 by_cases h1 : begun ≤ y.at_
 ·by_cases h2 : think ≤ t - y.at_
  ·rw [decide_eq_true (p := begun ≤ y.at_ ∧ think ≤ t - y.at_) ⟨h1, h2⟩]
   refine rt ?_
   exact ⟨rfl, xt⟩
  ·rw [decide_eq_false (p := begun ≤ y.at_ ∧ think ≤ t - y.at_) (fun h => h2 h.2)]
   refine rt ?_
   exact ⟨rfl, xt⟩
 ·rw [decide_eq_false (p := begun ≤ y.at_ ∧ think ≤ t - y.at_) (fun h => h1 h.1)]
  refine rt ?_
  exact ⟨rfl, xt⟩
theorem acount_ok (doc begun think t kn : Int) (l : List Av) (v : Value) (w : World) (hc : chkV l = 0) (hd : 0 ≤ doc ∧ doc ≤ 4095) (hb : 0 ≤ begun ∧ begun ≤ 1099511627775) (hth : 0 ≤ think ∧ think ≤ 1099511627775) (ht : 0 ≤ t ∧ t ≤ 1099511627775) (hk : 0 ≤ kn ∧ kn ≤ 1099511627775) (hv : IsL w Av.cells 8 v l) :
  Rets Tryz.prog 123 [v, .int .i64 doc, .int .i64 begun, .int .i64 think, .int .i64 t, .int .i64 kn] w fun r w' => (∃ q, r = .tuple #[q, .int .i64 0] ∧ IsL w' Av.cells 8 q (countingA doc begun think t kn l) ∧ ∀ k, q.ownBlock = some k → w.heap.size ≤ k) ∧ Ext w w' := by
 obtain ⟨d, cp, rfl⟩ := isSl_slice hv
 have hl := chkV_len hc
 have hrt : ∀ x ∈ l, 0 ≤ x.at_ ∧ x.at_ ≤ 1099511627775 := fun x hx => by
  have := ((good_srt ((chk_ok (by decide)).1 hc).2).2 x hx).2
  unfold rightV at this
  have := of_decide_eq_true this
  exact ⟨this.2.2.1, this.2.2.2.1⟩
 have hw1 : wth 4095 [doc] = true := by rw [wth1]; exact decide_eq_true hd
 have hw4 : wth 1099511627775 [begun, think, t, kn] = true := by rw [wth4]; exact decide_eq_true ⟨hb, hth, ht, hk⟩
 refine en Tryz.func123 39 fun hf_ => ?_
 refine g1 (cs := [.int .i64 begun]) fun B8 w1 E1 G8 Z8 => ?_
 refine g1 (cs := [.int .i64 think]) fun B9 w2 E2 G9 Z9 => ?_
 refine g1 (cs := [.int .i64 t]) fun B10 w3 E3 G10 Z10 => ?_
 refine gc (acheck_ok l _ w3 (hv.up xt)) ?_
 rintro _ w4 ⟨rfl, E4⟩
 rw [hc]
 refine gx fun w5 E5 => ?_
 refine gc (astand_ok doc t kn l _ w5 (by omega) (hv.up xt)) ?_
 rintro q w6 ⟨hO, E6⟩
 have s6 := E6.size
 have l8 := Z8.lt
 have l9 := Z9.lt
 have l10 := Z10.lt
 have s2 := E2.size
 have s3 := E3.size
 have s4 := E4.size
 have s5 := E5.size
 have X16 : Ext w1 w6 := xt
 have X26 : Ext w2 w6 := xt
 have X36 : Ext w3 w6 := xt
 have X : Ext w w6 := xt
 have V8 := Z8.up X16
 have V9 := Z9.up X26
 have V10 := Z10.up X36
 have hsl : (standA doc t kn l).length ≤ l.length := Nat.le_trans (List.length_filter_le _ _) (List.length_filter_le _ _)
 have hsm : ∀ x ∈ standA doc t kn l, x ∈ l := fun x hx => (List.mem_filter.1 (List.mem_filter.1 hx).1).1
 have hcn : countingA doc begun think t kn l = (standA doc t kn l).filter fun x => !(!keepA begun think t x) := by
  unfold countingA
  congr 1
  funext x; rw [Bool.not_not]
 rw [hcn]
 generalize standA doc t kn l = st at hO hsl hsm ⊢
 have hdl := adel_ok st (fun x => !keepA begun think t x) q (.func (.func 158) #[] #[.pointer (some ⟨B8, 0, none⟩), .pointer (some ⟨B10, 0, none⟩), .pointer (some ⟨B9, 0, none⟩)]) w5.heap.size w6 (by omega) hO (fun x hx w' e =>
  RetsX.v (fi := []) (args := [avV x]) (ca := [.pointer (some ⟨B8, 0, none⟩), .pointer (some ⟨B10, 0, none⟩), .pointer (some ⟨B9, 0, none⟩)]) (acnt1_ok begun think t x B8 B10 B9 w' (hrt x (hsm x hx)) ht (V8.ext e (by omega)) (V10.ext e (by omega)) (V9.ext e (by omega))))
 obtain ⟨dq, cq, rfl⟩ := isSl_slice (isSl_own hO)
 refine g ?_
 refine gc hdl ?_
 rintro r w7 ⟨⟨h7, o7⟩, E7⟩
 refine rt ?_
 exact ⟨⟨r, rfl, h7, fun k hk => by have := o7 k hk; have := E1.size; omega⟩, X.write E7 (by intro k hk hlt; have hk : w5.heap.size ≤ k := hk; have := E1.size; omega)⟩
end Go.Sg
end
