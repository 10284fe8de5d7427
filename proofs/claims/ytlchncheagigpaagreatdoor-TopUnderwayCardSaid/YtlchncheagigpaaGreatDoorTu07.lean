/- Parts of this project: Dep0, Dep1, Dep2, Dep3, Dep4. -/
import Derived.Test.YtlchncheagigpaaGreatDoorTu02
import Derived.Test.YtlchncheagigpaaGreatDoorTu04
import Derived.Test.YtlchncheagigpaaGreatDoorTu03
set_option maxHeartbeats 32000000
set_option linter.unusedSimpArgs false
set_option linter.unusedVariables false
set_option linter.unusedSectionVars false
section
set_option maxRecDepth 4000
namespace Go.Dep
open Go.Best Go.Rn
structure Dp where
 no : Int
 at_ : Int
 known : Int
 until_ : Int
 from_ : Int
 to : Int
 office : Int
 kind : Int
 most : Int
 gone : Bool
deriving DecidableEq, Inhabited
def zeroD : Dp := ⟨0, 0, 0, 0, 0, 0, 0, 0, 0, false⟩
def rightD (x : Dp) : Bool := decide (0 ≤ x.no ∧ x.no ≤ 1048576 ∧ 0 ≤ x.at_ ∧ x.at_ < 1099511627776 ∧ 0 ≤ x.known ∧ x.known < 1099511627776 ∧ 0 ≤ x.from_ ∧ x.from_ < 64 ∧ 0 ≤ x.to ∧ x.to < 64 ∧ x.from_ ≠ x.to ∧ 0 ≤ x.office ∧ x.office < 32 ∧ -1 ≤ x.kind ∧ x.kind < 16 ∧
 (x.gone = true → x.until_ = 0 ∧ x.most = 0) ∧ (x.gone = false → x.at_ < x.until_ ∧ x.until_ ≤ 1099511627776 ∧ 0 ≤ x.most ∧ x.most ≤ 1099511627776))
abbrev chkD (l : List Dp) : Int := chk Dp.no rightD 4096 160 l
structure Qn where
 office : Int
 kind : Int
 value : Int
 at_ : Int
 known : Int
def countsD (q : Qn) (x : Dp) : Bool := decide (x.at_ ≤ q.at_ ∧ x.known ≤ q.known)
def coversD (q : Qn) (x : Dp) : Bool := !x.gone && decide (q.at_ < x.until_ ∧ x.office = q.office ∧ (x.kind = -1 ∨ x.kind = q.kind) ∧ q.value ≤ x.most)
abbrev Sj := Int × Int × Int × Int
def sjD (x : Dp) : Sj := (x.from_, x.to, x.office, x.kind)
abbrev lastD (q : Qn) (l : List Dp) : List (Sj × Dp) := lastM sjD Dp.at_ (countsD q) l
def standsD (q : Qn) (m : List (Sj × Dp)) (x : Dp) : Bool := decide ((getM (sjD x) m).getD zeroD = x) && countsD q x && coversD q x
def coverL (q : Qn) (l : List Dp) : List Dp := l.filter (standsD q (lastD q l))
def argsD (f t : Int) (q : Qn) : Prop := 0 ≤ f ∧ f ≤ 63 ∧ 0 ≤ t ∧ t ≤ 63 ∧ 0 ≤ q.office ∧ q.office ≤ 31 ∧ 0 ≤ q.kind ∧ q.kind ≤ 15 ∧ 0 ≤ q.value ∧ q.value ≤ 1099511627776 ∧ 0 ≤ q.at_ ∧ q.at_ ≤ 1099511627775 ∧ 0 ≤ q.known ∧ q.known ≤ 1099511627775
abbrev Far := List (Int × Int)
def isAt (r : Int) : Option Int → Bool
 | some n => decide (n = r)
 | none => false
def stepF (r : Int) (far : Far) (x : Dp) : Far := if isAt r (getM x.to far) && !(getM x.from_ far).isSome then setM x.from_ (r + 1) far else far
def roundF (all : List Dp) (far : Far) (r : Nat) : Far := all.foldl (stepF (r : Int)) far
def farL (all : List Dp) (t : Int) (n : Nat) : Far := (List.range n).foldl (roundF all) [(t, 0)]
def chainB (q : Qn) (l : List Dp) (f t : Int) : Bool := (getM f (farL (coverL q l) t 8)).isSome
def FarOk (far : Far) : Prop := ∀ k n, getM k far = some n → 0 ≤ n ∧ n ≤ 8
theorem farOk_step {r : Int} {far : Far} {x : Dp} (h0 : 0 ≤ r) (h8 : r < 8) (h : FarOk far) : FarOk (stepF r far x) := by
 unfold stepF
 split
 ·intro k n hk
  rw [getM_set] at hk
  split at hk
  ·simp only [Option.some.injEq] at hk; omega
  ·exact h k n hk
 ·exact h
theorem farOk_fold {r : Int} (h0 : 0 ≤ r) (h8 : r < 8) : ∀ (all : List Dp) {far : Far}, FarOk far → FarOk (all.foldl (stepF r) far)
 | [], _, h => h
 | x :: all, _, h => farOk_fold h0 h8 all (farOk_step h0 h8 h)
theorem farL_succ (all : List Dp) (t : Int) (n : Nat) : farL all t (n + 1) = roundF all (farL all t n) n := by
 unfold farL; rw [List.range_succ, List.foldl_append]; rfl
theorem farOk (all : List Dp) (t : Int) : ∀ n, n ≤ 8 → FarOk (farL all t n)
 | 0, _ => fun k n hk => by
  simp only [farL, List.range_zero, List.foldl_nil, getM] at hk
  split at hk
  ·simp only [Option.some.injEq] at hk; omega
  ·simp at hk
 | n + 1, h => by rw [farL_succ]; exact farOk_fold (by omega) (by omega) all (farOk all t n (by omega))
theorem cover_len (q : Qn) (l : List Dp) : (coverL q l).length ≤ l.length := List.length_filter_le _ _
end Go.Dep
end
section
set_option maxRecDepth 4000
namespace Go.Dep
open Go.Rn Go.Rec
@[reducible] def Dp.cells (x : Dp) : List Value := [.int .i64 x.no, .int .i64 x.at_, .int .i64 x.known, .int .i64 x.until_, .int .i64 x.from_, .int .i64 x.to, .int .i64 x.office, .int .i64 x.kind, .int .i64 x.most, .bool x.gone]
theorem encD : EncOk Dp.cells 10 := ⟨fun _ => rfl, fun _ => rfl, by decide⟩
@[reducible] def Qn.cells (q : Qn) : List Value := [.int .i64 q.office, .int .i64 q.kind, .int .i64 q.value, .int .i64 q.at_, .int .i64 q.known]
end Go.Dep
namespace Go.Sg
open Go.Rn Go.Proofs Go.Dep Go.Rec Go.Best
attribute [local irreducible] Go.Rn.RetsX Go.Rn.RunLN Go.Rn.AsyN Go.Rn.RunL Go.Rn.RunE Go.Rn.Asy Go.Rn.OpV Go.Rn.OpE Go.Rn.ExecE
instance iDep1_1 (n lo hi : Int) : Pf 110 [.int .i64 n, .int .i64 lo, .int .i64 hi] (.bool (decide (lo ≤ n ∧ n ≤ hi))) := ⟨fun w => by
 refine en Tryz.func110 15 fun hf_ => ?_
 refine gs (fun h => ?_) (fun h => ?_)
 all_goals
  refine rt ?_
  exact ⟨congrArg Value.bool clB, rfl⟩⟩
instance iDep1_2 (n : Int) : Pf 111 [.int .i64 n] (.bool (decide (0 ≤ n ∧ n ≤ 1099511627775))) := ⟨fun w => by
 refine en Tryz.func111 5 fun hf_ => ?_
 refine rt ?_
 exact ⟨rfl, rfl⟩⟩
instance iDep1_3 (n : Int) : Pf 112 [.int .i64 n] (.bool (decide (0 ≤ n ∧ n ≤ 63))) := ⟨fun w => by
 refine en Tryz.func112 5 fun hf_ => ?_
 refine rt ?_
 exact ⟨rfl, rfl⟩⟩
instance iDep1_4 (x : Dp) : Px 67 [.agg x.cells.toArray] (.bool (rightD x)) := ⟨fun w => by
 obtain ⟨no, at_, known, until_, from_, to, office, kind, most, gone⟩ := x
 unfold rightD
 refine en Tryz.func67 75 fun hf_ => ?_
 refine g1 (cs := [.int .i64 no, .int .i64 at_, .int .i64 known, .int .i64 until_, .int .i64 from_, .int .i64 to, .int .i64 office, .int .i64 kind, .int .i64 most, .bool gone]) fun B w1 E1 G Z => ?_
 repeat' (first | refine gn (fun h_ => ?_) (fun h_ => ?_) | fail)
 all_goals
  refine rt ?_
  refine ⟨congrArg Value.bool ?_, xt⟩
  cases gone <;> first | contradiction | exact clB⟩
theorem dcheck_ok (l : List Dp) (v : Value) (w : World) (hv : IsL w Dp.cells 10 v l) : Rets Tryz.prog 31 [v] w fun r w' => r = .int .i64 (chkD l) ∧ Ext w w' := by
 refine en Tryz.func31 27 fun hf_ => ?_
 refine gs (fun h => ?_) (fun h => ?_)
 ·refine rt ?_
  exact ⟨by rw [oneOr]; unfold chkD Best.chk; rw [if_pos (by simp at h; omega)], xt⟩
 have hle : ¬ 4096 < l.length := by simp at h; omega
 clear h
 refine g ?_
 refine RunE.loop (ι := Nat × Int) (fun x => [(9, v), (10, .int .i64 (l.length : Int)), (3, .int .i64 x.2), (11, .int .i64 (x.1 : Int))])
  (fun x w' => x.1 ≤ l.length ∧ good Dp.no rightD x.2 (l.drop x.1) = good Dp.no rightD (-1) l ∧ Ext w w') (fun x => l.length - x.1) (0, -1) sb_ ⟨Nat.zero_le _, rfl, xt⟩ ?_
 rintro ⟨i, last⟩ w3 ⟨hi, hg, X⟩ again
 simp only at hi hg again ⊢
 have bad : good Dp.no rightD (-1) l = false → ∀ c : Int, Value.int .i64 160 = .int .i64 (chkD l) := fun h _ => by
  unfold chkD Best.chk; rw [if_neg hle, if_neg (by rw [h]; simp)]
 by_cases hlt : i < l.length
 ·obtain ⟨b, o, cap, rfl, hr, hc⟩ := isL_held hv hlt
  obtain ⟨x, hx⟩ : ∃ x, l[i]? = some x := ⟨_, List.getElem?_eq_getElem hlt⟩
  have hrx := flat_row encD hr hx
  have hd : l.drop i = x :: l.drop (i + 1) := by
   obtain ⟨hi, e⟩ := List.getElem?_eq_some_iff.1 hx
   rw [List.drop_eq_getElem_cons hi, e]
  rw [hd] at hg
  simp only [good] at hg
  refine g1 (cs := x.cells) fun B w4 E4 G Z => ?_
  cases hrt : rightD x with
  | false =>
   rw [hrt, Bool.false_and, Bool.false_and] at hg
   refine rt ?_
   exact ⟨bad hg.symm 0, xt⟩
  | true =>
   rw [hrt, Bool.true_and] at hg
   by_cases hlast : last < x.no
   ·rw [decide_eq_true hlast, Bool.true_and] at hg
    refine g ?_
    refine RunE.weaken sb_ (again (i + 1, x.no) _ (by simp only; omega) ⟨by simp only; omega, hg, xt⟩)
   ·rw [decide_eq_false hlast, Bool.false_and] at hg
    refine rt ?_
    exact ⟨bad hg.symm 0, xt⟩
 ·obtain rfl : i = l.length := by omega
  rw [List.drop_length] at hg
  simp only [good] at hg
  refine rt ?_
  exact ⟨by rw [oneOr]; unfold chkD Best.chk; rw [if_neg hle, if_pos hg.symm], xt⟩
end Go.Sg
end
section
set_option maxRecDepth 4000
namespace Go.Dep
open Go.Rn Go.Rec
abbrev dpV (x : Dp) : Value := .agg x.cells.toArray
@[reducible] def sjC (s : Sj) : List Value := [.int .i64 s.1, .int .i64 s.2.1, .int .i64 s.2.2.1, .int .i64 s.2.2.2]
abbrev sjV : Sj → Value := encV' sjC
end Go.Dep
namespace Go.Sg
open Go.Rn Go.Proofs Go.Dep Go.Rec Go.Best
attribute [local irreducible] Go.Rn.RetsX Go.Rn.RunLN Go.Rn.AsyN Go.Rn.RunL Go.Rn.RunE Go.Rn.Asy Go.Rn.OpV Go.Rn.OpE Go.Rn.ExecE
theorem dpFlat : Flat Tryz.prog 134 [(3, .int .i64), (3, .int .i64), (3, .int .i64), (3, .int .i64), (3, .int .i64), (3, .int .i64), (3, .int .i64), (3, .int .i64), (3, .int .i64), (4, .bool)] :=
 ⟨by kernel_rfl, by kernel_rfl, by kernel_rfl, by kernel_rfl, by kernel_rfl, fun x hx => by
  simp only [List.mem_cons, List.not_mem_nil, or_false] at hx
  rcases hx with rfl | rfl | rfl | rfl | rfl | rfl | rfl | rfl | rfl | rfl <;> first | exact ⟨Tryz.underlying4, by kernel_rfl, by kernel_rfl⟩ | exact ⟨Tryz.underlying3, by kernel_rfl, by kernel_rfl⟩⟩
theorem sjFlat : Flat Tryz.prog 287 [(3, .int .i64), (3, .int .i64), (3, .int .i64), (3, .int .i64)] :=
 ⟨by kernel_rfl, by kernel_rfl, by kernel_rfl, by kernel_rfl, by kernel_rfl, fun x hx => by
  simp only [List.mem_cons, List.not_mem_nil, or_false] at hx
  rcases hx with rfl | rfl | rfl | rfl <;> first | exact ⟨Tryz.underlying3, by kernel_rfl, by kernel_rfl⟩⟩
instance iDep2_1 (a b : Dp) : EqA 134 (dpV a) (dpV b) (decide (a = b)) := .of dpFlat fitsC fitsC (by
 obtain ⟨⟩ := a; obtain ⟨⟩ := b
 rw [Bool.eq_iff_iff]; simp [eqAll, veq, and_assoc])
theorem sjKey : KeyOk Tryz.prog 287 sjV fun _ => True := keyOk_flat sjFlat (fun _ => fitsC) fun a b => by
 obtain ⟨a1, a2, a3, a4⟩ := a; obtain ⟨b1, b2, b3, b4⟩ := b
 rw [Bool.eq_iff_iff]; simp [eqAll, veq, sjC]
instance iDep2_2 (a b c d : Int) : KeyOf sjV (.agg #[.int .i64 a, .int .i64 b, .int .i64 c, .int .i64 d]) (a, b, c, d) := ⟨rfl⟩
instance iDep2_3 : MapA 285 sjV dpV zeroD := ⟨⟨_, _, Tryz.underlying285, sjKey, by kernel_rfl⟩⟩
instance iDep2_4 (q : Qn) (x : Dp) : Px 190 [.agg q.cells.toArray, .agg x.cells.toArray] (.bool (countsD q x)) := ⟨fun w => by
 obtain ⟨no, at_, known, until_, from_, to, office, kind, most, gone⟩ := x
 obtain ⟨o, k, v, t, kn⟩ := q
 unfold countsD
 refine en Tryz.func190 17 fun hf_ => ?_
 refine g1 (cs := [.int .i64 o, .int .i64 k, .int .i64 v, .int .i64 t, .int .i64 kn]) fun B1 w1 E1 G1 Z1 => ?_
 refine g1 (cs := [.int .i64 no, .int .i64 at_, .int .i64 known, .int .i64 until_, .int .i64 from_, .int .i64 to, .int .i64 office, .int .i64 kind, .int .i64 most, .bool gone]) fun B2 w2 E2 G2 Z2 => ?_
 repeat' (first | refine gn (fun h_ => ?_) (fun h_ => ?_) | fail)
 all_goals
  refine rt ?_
  exact ⟨congrArg Value.bool clB, xt⟩⟩
instance iDep2_5 (q : Qn) (x : Dp) : Px 192 [.agg q.cells.toArray, .agg x.cells.toArray] (.bool (coversD q x)) := ⟨fun w => by
 obtain ⟨no, at_, known, until_, from_, to, office, kind, most, gone⟩ := x
 obtain ⟨o, k, v, t, kn⟩ := q
 unfold coversD
 refine en Tryz.func192 41 fun hf_ => ?_
 refine g1 (cs := [.int .i64 o, .int .i64 k, .int .i64 v, .int .i64 t, .int .i64 kn]) fun B1 w1 E1 G1 Z1 => ?_
 refine g1 (cs := [.int .i64 no, .int .i64 at_, .int .i64 known, .int .i64 until_, .int .i64 from_, .int .i64 to, .int .i64 office, .int .i64 kind, .int .i64 most, .bool gone]) fun B2 w2 E2 G2 Z2 => ?_
 repeat' (first | refine gn (fun h_ => ?_) (fun h_ => ?_) | fail)
 all_goals
  refine rt ?_
  refine ⟨congrArg Value.bool ?_, xt⟩
  cases gone <;> first | contradiction | exact clB⟩
end Go.Sg
end
section
set_option maxRecDepth 4000
namespace Go.Dep
open Go.Rn Go.Rec
abbrev cntV (q : Qn) : Value := .func (.func 190) #[.agg q.cells.toArray] #[]
abbrev covV (b3 b6 b5 b2 : Nat) : Value := .func (.func 191) #[] #[.pointer (some ⟨b3, 0, none⟩), .pointer (some ⟨b6, 0, none⟩), .pointer (some ⟨b5, 0, none⟩), .pointer (some ⟨b2, 0, none⟩)]
end Go.Dep
namespace Go.Sg
open Go.Rn Go.Proofs Go.Dep Go.Rec Go.Best
attribute [local irreducible] Go.Rn.RetsX Go.Rn.RunLN Go.Rn.AsyN Go.Rn.RunL Go.Rn.RunE Go.Rn.Asy Go.Rn.OpV Go.Rn.OpE Go.Rn.ExecE
theorem cov_gives (q : Qn) (l : List Dp) (v : Value) (R b2 b3 b5 b6 : Nat) (m : List (Sj × Dp)) (w0 : World) (hl : l.length ≤ 100000) (hv : IsL w0 Dp.cells 10 v l) (hM : MapW w0 R sjV dpV m) (Y2 : Blk w0 b2 q.cells 242) (Y3 : Blk w0 b3 [v] 23) (Y5 : Blk w0 b5 [cntV q] 135) (Y6 : Blk w0 b6 [.map (some R)] 285) :
  Gives Tryz.prog (covV b3 b6 b5 b2) ((l.filter (standsD q m)).map fun x => [dpV x]) w0 (fun k => k = b2 ∨ k = b3 ∨ k = b5 ∨ k = b6 ∨ k = R ∨ (l ≠ [] ∧ v.ownBlock = some k)) := by
 intro S J y w hS hJ0 hJX hJup hy
 refine RetsX.v (fi := []) (args := [y]) (ca := [.pointer (some ⟨b3, 0, none⟩), .pointer (some ⟨b6, 0, none⟩), .pointer (some ⟨b5, 0, none⟩), .pointer (some ⟨b2, 0, none⟩)]) ?_
 change RetsX Tryz.prog 191 [y, .pointer (some ⟨b3, 0, none⟩), .pointer (some ⟨b6, 0, none⟩), .pointer (some ⟨b5, 0, none⟩), .pointer (some ⟨b2, 0, none⟩)] _ _ _
 have at0 : ∀ i u, J i u → IsL u Dp.cells 10 v l ∧ MapW u R sjV dpV m ∧ Blk u b2 q.cells 242 ∧ Blk u b3 [v] 23 ∧ Blk u b5 [cntV q] 135 ∧ Blk u b6 [.map (some R)] 285 := fun i u h => by
  have e := hJX i u h
  exact ⟨isL_ext hv e fun h1 j h2 => hS j (by simp [h1, h2]), hM.ext e (hS _ (by simp)), Y2.ext e (hS _ (by simp)), Y3.ext e (hS _ (by simp)), Y5.ext e (hS _ (by simp)), Y6.ext e (hS _ (by simp))⟩
 refine en Tryz.func191 44 fun hf_ => ?_
 obtain ⟨U0, -, -, U3, -, -⟩ := at0 0 w hJ0
 refine g ?_
 refine rangeL hv encD 8 9 10 (fun _ : Unit => [(0, y), (1, .pointer (some ⟨b3, 0, none⟩)), (2, .pointer (some ⟨b6, 0, none⟩)), (3, .pointer (some ⟨b5, 0, none⟩)), (4, .pointer (some ⟨b2, 0, none⟩))])
  (fun i _ w' => J ((l.take i).filter (standsD q m)).length w') () sb_ (by simpa using hJ0) ?_ ?_
 ·rintro i ⟨⟩ x w3 hx hJ b o cap rfl hrx hlt again
  obtain ⟨-, UM, U2, -, U5, U6⟩ := at0 _ w3 hJ
  replace hrx := hrx.ext (hJX _ _ hJ) (hS b (.inr (.inr (.inr (.inr (.inr ⟨List.ne_nil_of_length_pos (by omega), rfl⟩))))))
  obtain ⟨f1, f2⟩ := filter_take (standsD q m) hx
  refine g1 (cs := x.cells) fun B7 w4 E4 G4 Z7 => ?_
  have skip : standsD q m x = false → ∀ w5, Ext w4 w5 → _ := fun h w5 E5 => again () w5 (by rw [f1, h]; simpa using hJup _ _ _ hJ (E4.trans E5))
  have give : standsD q m x = true → ∀ w5, J (((l.take i).filter (standsD q m)).length + 1) w5 → _ := fun h w5 H => again () w5 (by rw [f1, h]; simpa using H)
  replace hy := fun h w5 E => hy _ [dpV x] w5 (by rw [List.getElem?_map, f2 h]; rfl) (hJup _ _ _ hJ E)
  have hst : standsD q m x = (decide ((getM (sjD x) m).getD zeroD = x) && countsD q x && coversD q x) := rfl
  rw [hst] at skip give hy
  cases h1 : decide ((getM (sjD x) m).getD zeroD = x) with
  | false =>
   refine gx fun w5 E5 => ?_
   exact RunE.weaken sb_ (skip (by rw [h1]; rfl) _ E5)
  | true =>
   cases h2 : countsD q x with
   | false =>
    refine gx fun w5 E5 => ?_
    exact RunE.weaken sb_ (skip (by rw [h1, h2]; rfl) _ E5)
   | true =>
    cases h3 : coversD q x with
    | false =>
     refine gx fun w5 E5 => ?_
     exact RunE.weaken sb_ (skip (by rw [h1, h2, h3]; rfl) _ E5)
    | true =>
     refine gx fun w5 E5 => ?_
     refine RunL.ex rfl rfl rfl (OpE.callV rfl rfl (hy (by rw [h1, h2, h3]; rfl) w5 (E4.trans E5))) ?_
     rintro _ w6 ⟨rfl, hJ6⟩
     refine g ?_
     exact RunE.weaken sb_ (give (by rw [h1, h2, h3]; rfl) w6 hJ6)
 ·intro s w3 hJ
  rw [List.take_length] at hJ
  refine g ?_
  refine RunE.fallFn hf_ .nil ?_
  rw [List.length_map]; exact hJ
theorem dcov_ok (q : Qn) (l : List Dp) (v : Value) (w : World) (hl : l.length ≤ 100000) (hv : IsL w Dp.cells 10 v l) :
  Rets Tryz.prog 161 [.agg q.cells.toArray, v] w fun r w' => (∃ F : Nat → Prop, Gives Tryz.prog r ((coverL q l).map fun x => [dpV x]) w' F ∧ ∀ k, F k → k < w'.heap.size) ∧ Ext w w' := by
 obtain ⟨d, cp, rfl⟩ := isSl_slice hv
 refine en Tryz.func161 55 fun hf_ => ?_
 refine g1 (cs := q.cells) fun B2 w2 E2 G2 Z2 => ?_
 refine g1 (cs := [.slice d l.length cp]) fun B3 w3 E3 G3 Z3 => ?_
 refine g1 (cs := [cntV q]) fun B5 w5 E5 G5 Z5 => ?_
 refine g ?_
 refine RunL.ex rfl rfl rfl (mm sjV dpV) ?_
 rintro _ w4 ⟨R, rfl, gR, E4, M⟩
 refine g1 (cs := [.map (some R)]) fun B6 w6 E6 G6 Z6 => ?_
 refine g ?_
 have hR : w.heap.size ≤ R := by have := E2.size; have := E3.size; have := E5.size; omega
 have X6 : Ext w w6 := xt
 replace M := M.up E6
 have n2 := M.ne (Z2.up xt)
 have n3 := M.ne (Z3.up xt)
 have n5 := M.ne (Z5.up xt)
 have n6 := M.ne Z6
 refine rangeL hv encD 15 16 17 (fun _ : Unit => [(2, .pointer (some ⟨B2, 0, none⟩)), (3, .pointer (some ⟨B3, 0, none⟩)), (5, .pointer (some ⟨B5, 0, none⟩)), (6, .pointer (some ⟨B6, 0, none⟩))])
  (fun i _ w' => ExtB (· = R) w6 w' ∧ MapW w' R sjV dpV (lastM sjD Dp.at_ (countsD q) (l.take i))) () sb_ ⟨ExtB.refl _ _, M⟩ ?_ ?_
 ·rintro i ⟨⟩ x w7 hx ⟨X7, M⟩ b o cap hve hrx hlt again
  cases hve
  rw [lastM_snoc sjD Dp.at_ (countsD q) hx] at again
  generalize lastM sjD Dp.at_ (countsD q) (l.take i) = m at M again
  have Z5 := (Z5.up (xt : Ext w5 w6)).ext X7 n5
  replace Z6 := Z6.ext X7 n6
  have X : Ext w w7 := X6.write X7 (by intro k hk hlt; omega)
  refine g1 (cs := x.cells) fun B8 w8 E8 G8 Z8 => ?_
  refine g1 (cs := sjC (sjD x)) fun B9 w9 E9 G9 Z9 => ?_
  refine g1 (cs := ((getM (sjD x) m).getD zeroD).cells) fun B10 w10 E10 G10 Z10 => ?_
  have skip : lastStep sjD Dp.at_ (countsD q) m x = m → _ := fun h => again () w10 ⟨X7.trans (ExtB.of_ext xt), by rw [h]; exact M.up xt⟩
  have set : lastStep sjD Dp.at_ (countsD q) m x = setM (sjD x) x m → ∀ w11, ExtB (· = R) w10 w11 → MapW w11 R sjV dpV (setM (sjD x) x m) → _ := fun h w11 e hM => again () w11 ⟨(X7.trans (ExtB.of_ext (xt : Ext w7 w10))).trans e, by rw [h]; exact hM⟩
  unfold lastStep newer at skip set
  cases hc : countsD q x with
  | false =>
   refine g ?_
   exact RunE.weaken sb_ (skip (by rw [hc]; rfl))
  | true =>
   rw [hc] at skip set
   cases hg : getM (sjD x) m with
   | none =>
    refine g ?_
    refine RunL.exN rfl rfl (ms rfl rfl rfl M xt inferInstance inferInstance (u := x) rfl) ?_
    rintro _ w11 ⟨M11, E11, -⟩
    refine g ?_
    exact RunE.weaken sb_ (set (by rw [hg]; rfl) w11 E11 M11)
   | some y =>
    rw [hg] at Z10 skip set
    simp only [Option.getD_some] at Z10
    by_cases hle : y.at_ ≤ x.at_
    ·refine g ?_
     refine RunL.exN rfl rfl (ms rfl rfl rfl M xt inferInstance inferInstance (u := x) rfl) ?_
     rintro _ w11 ⟨M11, E11, -⟩
     refine g ?_
     exact RunE.weaken sb_ (set (by simp [hle]) w11 E11 M11)
    ·refine g ?_
     exact RunE.weaken sb_ (skip (by simp [hle]))
 ·rintro ⟨⟩ w7 ⟨X7, M⟩
  rw [List.take_length] at M
  refine rt ?_
  have X : Ext w w7 := X6.write X7 (by intro k hk hlt; omega)
  refine ⟨⟨_, cov_gives q l _ R B2 B3 B5 B6 _ w7 hl (hv.up X) M ((Z2.up xt).ext X7 n2) ((Z3.up xt).ext X7 n3) ((Z5.up xt).ext X7 n5) (Z6.ext X7 n6), fun k hk => ?_⟩, X⟩
  have h7 := X7.size
  have e1 := (Z2.up (xt : Ext w2 w6)).lt
  have e2 := (Z3.up (xt : Ext w3 w6)).lt
  have e3 := (Z5.up (xt : Ext w5 w6)).lt
  have e4 := Z6.lt
  rcases hk with rfl | rfl | rfl | rfl | rfl | ⟨h1, h2⟩
  ·omega
  ·omega
  ·omega
  ·omega
  ·exact M.lt
  ·exact Nat.lt_of_lt_of_le (isL_own hv (by decide) h1 h2) X.size
theorem dappendSeq_ok (xs : List Dp) (f : Value) (F : Nat → Prop) (w : World) (hG : Gives Tryz.prog f (xs.map fun x => [dpV x]) w F) (hF : ∀ k, F k → k < w.heap.size) (hl : xs.length ≤ 100000) :
  Rets Tryz.prog 189 [.slice none 0 0, f] w fun r w' => w'.ownsRow w.heap.size 134 10 r xs.length (flat Dp.cells xs) ∧ Ext w w' := by
 refine en Tryz.func189 13 fun hf_ => ?_
 refine g1 (cs := [.slice none 0 0]) fun B2 w2_ X G2 Z2 => ?_
 refine g ?_
 have hl2 := Z2.lt
 refine RunE.rangeGives (w0 := w) (F := F) rfl ⟨_, hf_⟩ rfl hG (fun k => k = B2) (fun k hk => ?_) (ExtB.of_ext X) (fun ys hx => ?_) rfl
  (fun i w' => (∃ u, Blk w' B2 [u] 23 ∧ w'.ownsRow (w2_.heap.size + 2) 134 10 u i (flat Dp.cells (xs.take i))) ∧ w2_.heap.size + 2 ≤ w'.heap.size ∧ ExtB (fun k => k = B2) w2_ w') ?_ ?_ ?_ ?_ ?_
 ·have h1 := hF k hk
  have h2 := X.size
  exact ⟨fun e => by omega, by omega⟩
 ·simp only [List.mem_map] at hx
  obtain ⟨a, -, rfl⟩ := hx; rfl
 ·intro w2 e hsz; exact ⟨⟨_, Z2.up e, World.ownsRow_nil _ _ _ _⟩, by omega, ExtB.of_ext e⟩
 ·rintro i u ⟨-, -, h⟩; exact h
 ·rintro i u u' ⟨⟨y, h2, ho⟩, hs, e1⟩ e2
  exact ⟨⟨y, h2.ext e2 (by omega), ownsRow_ext ho e2 (fun k hk h => by have := ownsRow_ge ho hk; omega)⟩, by have := e2.size; omega, e1.write e2 (by intro k hk hlt; omega)⟩
 ·rintro i ys u lp hx ⟨⟨y, h2, ho⟩, hsz, e1⟩ hL hs
  obtain ⟨x, hxl, rfl⟩ : ∃ x, xs[i]? = some x ∧ ys = [dpV x] := by
   simp only [List.getElem?_map, Option.map_eq_some_iff] at hx
   obtain ⟨a, h, rfl⟩ := hx; exact ⟨a, h, rfl⟩
  have hil : i < xs.length := (List.getElem?_eq_some_iff.1 hxl).1
  have hLl := lt_of_get hL.l
  obtain ⟨dy, cy, rfl⟩ := isSl_slice (isSl_own ho)
  simp only [parEnv]
  refine g1 (cs := Dp.cells x) fun B5 u2 XA e5 Z5 => ?_
  refine RunE.beginR (hL.up XA) hs (by omega) fun u3 t3 hL3 => ?_
  have Y2 := (h2.up XA).ext t3 (by omega)
  have Y5 := Z5.ext t3 (by omega)
  have hO := ownsRow_ext (ownsRow_ext ho XA (fun _ _ h => h)) t3 (fun k hk h => by have := ownsRow_ge ho hk; omega)
  have XB : ExtB (fun k => k = B2) w2_ u3 := (e1.trans (ExtB.of_ext XA)).write t3 (by intro k hk hlt; omega)
  have hs3 : w2_.heap.size + 2 ≤ u3.heap.size := by have := XA.size; have := t3.size; omega
  clear h2 ho Z5 XA t3 hL e1
  refine g ?_
  refine RunL.ex rfl rfl rfl (OpE.buildSl Tryz.tOk [dpV x] rfl rfl rfl rfl rfl rfl (by simp [Value.cells])) ?_
  rintro _ u4 ⟨B, rfl, a4⟩
  have hx1 : IsL u4 Dp.cells 10 (.slice (some ⟨B, 0, none⟩) 1 1) [x] := by
   have := isSl_added (n := 1) (sz := 10) a4 rfl
   simpa [IsL, flat, cellsAll, Value.cells] using this
  replace hO := ownsRow_ext hO a4.ext (fun _ _ h => h)
  refine g ?_
  refine RunL.ex rfl rfl rfl (OpE.append' Tryz.tOk rfl rfl rfl rfl rfl rfl hO hx1 (flat_plain encD [x]) (by show _ * 80 ≤ _; simp only [List.length_singleton]; omega) (by simp only [List.length_singleton]; omega) (by have := a4.ext.size; omega)) ?_
  rintro y' u5 ⟨O5, E5, -⟩
  obtain ⟨b5, o5, c5, rfl, -, -, -⟩ := (isSl_own O5).held (by simp only [List.length_singleton]; omega)
  have hne : ∀ k, (Value.slice dy i cy).ownBlock = some k → w2_.heap.size + 2 ≤ k := fun k hk => ownsRow_ge hO hk
  replace Y2 := (Y2.up a4.ext).ext E5 (fun h => by have := hne _ h; omega)
  replace hL3 := (hL3.up a4.ext).ext E5 (fun h => by have := hne _ h; omega) (fun h => by have := hne _ h; omega)
  replace XB : ExtB (fun k => k = B2) w2_ u5 := (XB.trans (ExtB.of_ext a4.ext)).write E5 (by intro k hk hlt; have := hne k hk; omega)
  have hs5 : w2_.heap.size + 2 ≤ u5.heap.size := by have := a4.ext.size; have := E5.size; omega
  clear hO E5 a4 hne
  refine g ?_
  refine RunL.store Tryz.tOk rfl rfl rfl rfl rfl Y2 rfl rfl fun u6 t6 => ?_
  replace Y2 : Blk u6 B2 [.slice (some ⟨b5, o5, none⟩) (i + [x].length) c5] 23 := t6.at_
  replace hL3 := hL3.ext t6.ext (by omega) (by omega)
  replace XB : ExtB (fun k => k = B2) w2_ u6 := XB.trans t6.ext
  replace O5 := ownsRow_ext O5 t6.ext (fun k hk h => by have := ownsRow_ge O5 hk; omega)
  refine g ?_
  refine RunE.endR ⟨⟨_, Y2, ?_⟩, by have := t6.ext.size; omega, XB⟩ hL3
  rw [List.take_add_one, hxl, flat_append]
  exact O5
 ·rintro w' ⟨⟨y, h2, ho⟩, hsz, e1⟩ hD
  rw [List.length_map, List.take_length] at ho
  have X8 : Ext w w' := X.write e1 (by intro k hk hlt; omega)
  obtain ⟨dy, cy, rfl⟩ := isSl_slice (isSl_own ho)
  refine g ?_
  refine RunE.retFn1 hf_ hD fun w9 t9 => ?_
  have hX := X.size
  exact ⟨_, .tmp rfl .nil, ownsRow_base (ownsRow_ext ho t9.ext (fun k hk h => by have := ownsRow_ge ho hk; omega)) (by omega), X8.write t9.ext (by intro k hk hlt; omega)⟩
theorem dcollect_ok (xs : List Dp) (f : Value) (F : Nat → Prop) (w : World) (hG : Gives Tryz.prog f (xs.map fun x => [dpV x]) w F) (hF : ∀ k, F k → k < w.heap.size) (hl : xs.length ≤ 100000) :
  Rets Tryz.prog 160 [f] w fun r w' => w'.ownsRow w.heap.size 134 10 r xs.length (flat Dp.cells xs) ∧ Ext w w' := by
 refine en Tryz.func160 5 fun hf_ => ?_
 refine gc (dappendSeq_ok xs f F w hG hF hl) ?_
 rintro r w1 ⟨h1, h2⟩
 refine rt ?_
 exact ⟨h1, h2⟩
end Go.Sg
end
section
set_option maxRecDepth 4000
namespace Go.Dep
open Go.Rn
theorem chkD_len {l : List Dp} (h : chkD l = 0) : l.length ≤ 4096 := ((Go.Best.chk_ok (by decide)).1 h).1
end Go.Dep
namespace Go.Sg
open Go.Rn Go.Proofs Go.Dep Go.Rec Go.Best
attribute [local irreducible] Go.Rn.RetsX Go.Rn.RunLN Go.Rn.AsyN Go.Rn.RunL Go.Rn.RunE Go.Rn.Asy Go.Rn.OpV Go.Rn.OpE Go.Rn.ExecE
abbrev kvI : Int → Value := Value.int .i64
instance iDep4_1 : MapA 140 kvI kvI 0 := ⟨⟨_, _, Tryz.underlying140, keyOk_int Tryz.underlying3, by kernel_rfl⟩⟩
theorem dask_ok (l : List Dp) (v : Value) (f t : Int) (q : Qn) (w : World) (hc : chkD l = 0) (ha : argsD f t q) (hv : IsL w Dp.cells 10 v l) : Rets Tryz.prog 159 [v, .int .i64 f, .int .i64 t, .agg q.cells.toArray] w fun r w' => r = .int .i64 0 ∧ Ext w w' := by
 obtain ⟨a1, a2, a3, a4, a5, a6, a7, a8, a9, b1, b2, b3, b4, b5⟩ := ha
 refine en Tryz.func159 53 fun hf_ => ?_
 refine g1 (cs := q.cells) fun B w1 E1 G1 Z => ?_
 refine gc (dcheck_ok l v w1 (hv.up xt)) ?_
 rintro _ w2 ⟨rfl, E2⟩
 rw [hc]
 refine rt ?_
 exact ⟨rfl, xt⟩
theorem dchain_ok (l : List Dp) (v : Value) (f t o k val at_ known : Int) (w : World) (hc : chkD l = 0) (ha : argsD f t ⟨o, k, val, at_, known⟩) (hv : IsL w Dp.cells 10 v l) :
  Rets Tryz.prog 125 [v, .int .i64 f, .int .i64 t, .int .i64 o, .int .i64 k, .int .i64 val, .int .i64 at_, .int .i64 known] w fun r w' => (∃ p, r = .tuple #[p, .bool (chainB ⟨o, k, val, at_, known⟩ l f t), .int .i64 0]) ∧ Ext w w' := by
 have hl := chkD_len hc
 unfold chainB
 generalize hq : (⟨o, k, val, at_, known⟩ : Qn) = q at ha ⊢
 have hqc : q.cells = [.int .i64 o, .int .i64 k, .int .i64 val, .int .i64 at_, .int .i64 known] := by subst hq; rfl
 refine en Tryz.func125 145 fun hf_ => ?_
 refine g1 (cs := [.int .i64 o, .int .i64 k, .int .i64 val, .int .i64 at_, .int .i64 known]) fun B w1 E1 G1 Z => ?_
 refine g ?_
 rw [← hqc]
 refine gc (dask_ok l v f t q w1 hc ha (hv.up xt)) ?_
 rintro _ w2 ⟨rfl, E2⟩
 refine g ?_
 rw [← hqc]
 refine gc (dcov_ok q l v w2 (by omega) (hv.up xt)) ?_
 rintro fv w3 ⟨⟨F, hG, hF⟩, E3⟩
 have hcl := cover_len q l
 generalize coverL q l = all at hG hcl ⊢
 refine gc (dcollect_ok all fv F w3 hG hF (by omega)) ?_
 rintro va w4 ⟨hO, E4⟩
 have hva := isSl_own hO
 refine g ?_
 refine RunL.ex rfl rfl rfl (mm kvI kvI) ?_
 rintro _ w5 ⟨R, rfl, gR, E5, M⟩
 have hs4 := (xt : Ext w w4).size
 refine g ?_
 refine RunL.exN rfl rfl (mi rfl rfl rfl M xt inferInstance inferInstance (u := 0) rfl) ?_
 rintro _ w6 ⟨M6, E6, -⟩
 have X6 : Ext w w6 := ExtB.write (xt : Ext w w5) E6 (by intro i hi hlt; omega)
 have hR4 : w4.heap.size ≤ R := gR
 have V6 : IsL w6 Dp.cells 10 va all := IsSl.ext (hva.up E5) E6 (fun j hj h => by
  have := isSl_ownlt hO hj; omega)
 have far0 : setM t 0 ([] : Far) = farL all t 0 := rfl
 rw [far0] at M6
 refine g ?_
 refine RunE.loop (ι := Nat) (fun r => [(57, .int .i64 (r : Int)), (20, va), (21, .map (some R)), (1, .int .i64 f), (16, .slice none 0 0)])
  (fun r w' => r ≤ 8 ∧ ExtB (· = R) w6 w' ∧ MapW w' R kvI kvI (farL all t r)) (fun r => 8 - r) 0 sb_ ⟨by omega, ExtB.refl _ _, M6⟩ ?_
 clear M6 M
 rintro r w7 ⟨hr, X7, M7⟩ again
 by_cases hlt : r < 8
 ·refine g ?_
  refine rangeL V6 encD 60 61 62 (fun _ : Unit => [(57, .int .i64 (r : Int)), (22, .int .i64 (r : Int)), (20, va), (21, .map (some R)), (1, .int .i64 f), (16, .slice none 0 0)])
   (fun i _ w' => ExtB (· = R) w6 w' ∧ MapW w' R kvI kvI ((all.take i).foldl (stepF (r : Int)) (farL all t r))) () sb_ ⟨X7, M7⟩ ?_ ?_
  ·rintro i ⟨⟩ x w8 hx ⟨X8, M8⟩ b o' cap hve hrx hli again2
   cases hve
   rw [List.take_add_one, hx, List.foldl_append] at again2
   simp only [Option.toList_some, List.foldl_cons, List.foldl_nil] at again2
   generalize (all.take i).foldl (stepF (r : Int)) (farL all t r) = far at M8 again2
   replace hrx := hrx.ext X8 (fun h => by
    have := isSl_ownlt hO (j := b) rfl; omega)
   have skip : stepF (r : Int) far x = far → ∀ w9, Ext w8 w9 → _ := fun h w9 E9 => again2 () w9 ⟨X8.trans (ExtB.of_ext E9), by rw [h]; exact M8.up E9⟩
   have set : stepF (r : Int) far x = setM x.from_ ((r : Int) + 1) far → ∀ w9 w11, Ext w8 w9 → ExtB (· = R) w9 w11 → MapW w11 R kvI kvI (setM x.from_ ((r : Int) + 1) far) → _ := fun h w9 w11 E9 e hM => again2 () w11 ⟨(X8.trans (ExtB.of_ext E9)).trans e, by rw [h]; exact hM⟩
   unfold stepF at skip set
   cases hm : getM x.from_ far with
   | some m =>
    rw [hm] at skip
    cases hg : getM x.to far with
    | none =>
     refine g1 (cs := x.cells) fun B9 w9 E9 G9 Z9 => ?_
     exact RunE.weaken sb_ (skip (by simp) w9 E9)
    | some n =>
     by_cases hn : n = r
     all_goals
      refine g1 (cs := x.cells) fun B9 w9 E9 G9 Z9 => ?_
      exact RunE.weaken sb_ (skip (by simp) w9 E9)
   | none =>
    rw [hm] at skip set
    cases hg : getM x.to far with
    | none =>
     refine g1 (cs := x.cells) fun B9 w9 E9 G9 Z9 => ?_
     exact RunE.weaken sb_ (skip (by rw [hg]; rfl) w9 E9)
    | some n =>
     by_cases hn : n = r
     ·refine g1 (cs := x.cells) fun B9 w9 E9 G9 Z9 => ?_
      refine RunL.exN rfl rfl (ms rfl rfl rfl M8 xt inferInstance inferInstance (u := (r : Int) + 1) rfl) ?_
      rintro _ w11 ⟨M11, E11, -⟩
      refine g ?_
      exact RunE.weaken sb_ (set (by simp [isAt, hn, hg]) w9 w11 E9 E11 M11)
     ·refine g1 (cs := x.cells) fun B9 w9 E9 G9 Z9 => ?_
      exact RunE.weaken sb_ (skip (by simp [isAt, hn, hg]) w9 E9)
  ·rintro ⟨⟩ w8 ⟨X8, M8⟩
   rw [List.take_length] at M8
   refine g ?_
   exact RunE.weaken sb_ (again (r + 1) w8 (by omega) ⟨by omega, X8, by rw [farL_succ]; exact M8⟩)
 ·obtain rfl : r = 8 := by omega
  clear again
  have hfo := farOk all t 8 (Nat.le_refl _)
  generalize farL all t 8 = far at M7 hfo ⊢
  have X : Ext w w7 := X6.write X7 (by intro i hi hlt; omega)
  have V7 : IsL w7 Dp.cells 10 va all := IsSl.ext V6 X7 (fun j hj h => by
   have := isSl_ownlt hO hj; omega)
  cases hg : getM f far with
  | none =>
   refine rt ?_
   exact ⟨⟨_, rfl⟩, xt⟩
  | some n0 =>
   obtain ⟨n1, n2⟩ := hfo f n0 hg
   clear hG hF far0
   have hn0 : MapW w7 R kvI kvI far := M7
   refine g ?_
   refine RunE.loop (ι := Int × Int × Value × List Value) (fun s => [(31, .int .i64 s.1), (29, .int .i64 s.2.1), (20, va), (21, .map (some R)), (16, s.2.2.1)])
    (fun s w' => 0 ≤ s.2.1 ∧ (s.2.2.2.length : Int) + s.2.1 ≤ 8 ∧ ExtB (fun k => w7.heap.size ≤ k) w7 w' ∧ w'.ownsRow w7.heap.size 3 1 s.2.2.1 s.2.2.2.length s.2.2.2) (fun s => s.2.1.toNat) (f, n0, .slice none 0 0, []) sb_ ⟨n1, by simpa using n2, ExtB.refl _ _, World.ownsRow_nil _ _ _ _⟩ ?_
   rintro ⟨p, n, u, xs⟩ w8 ⟨h1, h2, X8, hu⟩ again
   simp only at h1 h2 hu again ⊢
   have V8 : IsL w8 Dp.cells 10 va all := IsSl.ext V7 X8 (fun j hj h => by
    have := isSl_ownlt hO hj; have := (xt : Ext w4 w5).size; have := E6.size; have := X7.size; omega)
   have M8 := M7.ext X8 (fun h => by have := M7.lt; omega)
   have Xw : Ext w w8 := X.write X8 (by intro i hi hlt; have := X.size; omega)
   by_cases hn : 0 < n
   ·have next := fun p' w9 (e : Ext w8 w9) => again (p', n - 1, u, xs) w9 (by simp only; omega) ⟨by simp only; omega, by simp only; omega, X8.trans (ExtB.of_ext e), ownsRow_ext hu e (fun _ _ h => h)⟩
    simp only at next
    refine g ?_
    refine rangeL V8 encD 110 111 112 (fun _ : Unit => [(31, .int .i64 p), (29, .int .i64 n), (20, va), (21, .map (some R)), (16, u)]) (fun _ _ w' => Ext w8 w') () sb_ (ExtB.refl _ _) ?_ ?_
    ·rintro i ⟨⟩ x w9 hx E9 b o' cap hve hrx hli again2
     cases hve
     have skip : ∀ w10, Ext w9 w10 → _ := fun w10 e => again2 () w10 (E9.trans e)
     cases hg : getM x.to far with
     | none =>
      by_cases hp : x.from_ = p
      all_goals
       refine g1 (cs := x.cells) fun B33 w10 E10 G10 Z10 => ?_
       exact RunE.weaken sb_ (skip w10 E10)
     | some m =>
      by_cases hp : x.from_ = p
      ·by_cases hm : m = n - 1
       ·refine g1 (cs := x.cells) fun B33 w10 E10 G10 Z10 => ?_
        have hb33 : ∀ k, u.ownBlock = some k → k < B33 := fun k hk => by
         have := isSl_ownlt hu hk; have := E9.size; omega
        have hn33 : ¬ u.ownBlock = some B33 := fun h => by have := hb33 _ h; omega
        have hu10 := ownsRow_ext hu (xt : Ext w8 w10) (fun _ _ h => h)
        have hs8 : w7.heap.size ≤ w10.heap.size := by have := X8.size; have := (xt : Ext w8 w10).size; omega
        refine RunE.draw (fun k => u.ownBlock = some k) mix' ?_
        intro wd Xd
        refine ga ?_
        refine Asy.evV rfl rfl rfl rfl (fun _ X_ => OpV.load1 Tryz.tOk rfl rfl rfl (Blk.cell ((Z10.up Xd).ext X_ hn33) rfl)) ?_
        refine ga ?_
        refine Asy.pre0 (fun a w' => ∃ B, a = .slice (some ⟨B, 0, none⟩) 1 1 ∧ Blk w' B [.int .i64 x.no] 3) rfl rfl rfl rfl (fun a w' w'' _ e h => ?_) (fun w' _ => ?_) ?_
        ·obtain ⟨B, h1, h2⟩ := h; exact ⟨B, h1, h2.up e⟩
        ·refine OpE.mono (OpE.buildSl Tryz.tOk [.int .i64 x.no] rfl rfl rfl rfl rfl rfl (by simp [Value.cells])) ?_ fun _ _ h => h
         rintro _ w'' ⟨B, rfl, a⟩; exact ⟨a.ext, B, rfl, a.at_⟩
        refine Asy.wriP 0 (fun a w' => w'.ownsRow w7.heap.size 3 1 a (xs.length + 1) (xs ++ [.int .i64 x.no])) rfl rfl rfl rfl rfl rfl (fun a w' w'' _ e h => ownsRow_ext h e (fun _ _ h => h)) (fun w' y e hy => ?_) ?_
        ·obtain ⟨B, rfl, hB⟩ := hy
         have hx1 : IsSl w' 1 (.slice (some ⟨B, 0, none⟩) 1 1) 1 [.int .i64 x.no] := isSl_blk (n := 1) (cap := 1) (sz := 1) hB (fun i v h => by rw [Nat.zero_add]; exact h) rfl (Nat.le_refl 1)
         refine OpE.mono (OpE.append' Tryz.tOk rfl rfl rfl rfl rfl rfl (ownsRow_ext hu10 (Xd.trans e) (fun _ _ h => h)) hx1 rfl (by show _ * 8 ≤ _; omega) (by omega) (by have := (Xd.trans e).size; omega)) ?_ fun _ _ h => h
         rintro r' w'' ⟨h1, h2, -⟩; exact ⟨h2, h1⟩
        refine ga ?_
        refine Asy.evV rfl rfl rfl rfl (fun _ X_ => OpV.load1 Tryz.tOk rfl rfl rfl (Blk.cell ((Z10.up Xd).ext X_ hn33) rfl)) ?_
        refine ga ?_
        refine Asy.wri1 (fun a w' => w'.ownsRow w7.heap.size 3 1 a (xs.length + 1) (xs ++ [.int .i64 x.no])) rfl rfl rfl rfl rfl (fun a w' w'' _ e h => ownsRow_ext h e (fun _ _ h => h)) (fun w' y e hy => ?_) ?_
        ·refine OpE.mono (OpV.evp Tryz.tOk rfl).e ?_ fun _ _ h => h
         rintro _ w'' ⟨rfl, rfl⟩; exact ⟨ExtB.refl _ _, hy⟩
        refine ga ?_
        refine Asy.tailW (by decide +kernel) fun we r Xe hr => ?_
        simp only [satsAll]
        refine g ?_
        refine RunE.weaken sb_ (again (x.to, n - 1, r, xs ++ [.int .i64 x.no]) we (by simp only; omega) ⟨by simp only; omega, by simp only [List.length_append, List.length_singleton]; omega, ?_, by simpa using hr⟩)
        exact ((X8.trans (ExtB.of_ext (xt : Ext w8 w10))).trans (ExtB.of_ext Xd)).trans (Xe.mono fun k _ hk => ownsRow_ge hu hk)
       ·refine g1 (cs := x.cells) fun B33 w10 E10 G10 Z10 => ?_
        exact RunE.weaken sb_ (skip w10 E10)
      ·refine g1 (cs := x.cells) fun B33 w10 E10 G10 Z10 => ?_
       exact RunE.weaken sb_ (skip w10 E10)
    ·rintro ⟨⟩ w9 E9
     refine g ?_
     exact RunE.weaken sb_ (next p w9 E9)
   ·refine rt ?_
    exact ⟨⟨_, rfl⟩, Xw⟩
end Go.Sg
end
