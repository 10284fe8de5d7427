/- Parts of this project: Bud0, Bud1, Bud2, Bud3, Bud4, Bud5. -/
import Derived.Test.YtlchncheagigpaaGreatDoorTu02
import Derived.Test.YtlchncheagigpaaGreatDoorTu04
import Derived.Test.YtlchncheagigpaaGreatDoorTu03
set_option maxHeartbeats 32000000
set_option linter.unusedSimpArgs false
set_option linter.unusedVariables false
set_option linter.unusedSectionVars false
section
set_option maxRecDepth 4000
namespace Go.Bud
open Go.Best Go.Rn
structure Bg where
 no : Int
 at_ : Int
 known : Int
 kind : Int
 period : Int
 count : Int
 value : Int
 gone : Bool
deriving DecidableEq, Inhabited
def zeroB : Bg := ⟨0, 0, 0, 0, 0, 0, 0, false⟩
def rightB (x : Bg) : Bool := decide (0 ≤ x.no ∧ x.no ≤ 1048576 ∧ 0 ≤ x.at_ ∧ x.at_ ≤ 1099511627775 ∧ 0 ≤ x.known ∧ x.known ≤ 1099511627775 ∧ -1 ≤ x.kind ∧ x.kind ≤ 15 ∧ 1 ≤ x.period ∧ x.period ≤ 1099511627776 ∧ 0 ≤ x.count ∧ 0 ≤ x.value ∧
 (x.gone = true → x.count ≤ 0 ∧ x.value ≤ 0) ∧ (x.gone = false → x.count ≤ 1048576 ∧ x.value ≤ 1099511627776))
abbrev chkB (l : List Bg) : Int := chk Bg.no rightB 4096 180 l
structure Us where
 doc : Int
 kind : Int
 value : Int
 at_ : Int
 known : Int
def rightU (x : Us) : Bool := decide (0 ≤ x.doc ∧ x.doc ≤ 4095 ∧ 0 ≤ x.kind ∧ x.kind ≤ 15 ∧ 0 ≤ x.value ∧ x.value ≤ 1099511627776 ∧ 0 ≤ x.at_ ∧ x.at_ ≤ 1099511627775 ∧ 0 ≤ x.known ∧ x.known ≤ 1099511627775)
abbrev MetB := List (Int × Bool)
def usesFrom : MetB → List Us → Bool
 | _, [] => true
 | m, x :: r => if (getM x.doc m).getD false then false else if rightU x then usesFrom (setM x.doc true m) r else false
def usesB (u : List Us) : Bool := usesFrom [] u
theorem usesFrom_right : ∀ {u : List Us} {m : MetB}, usesFrom m u = true → ∀ x ∈ u, rightU x = true
 | [], _, _, _, h => by simp at h
 | x :: r, m, h, y, hy => by
  simp only [usesFrom] at h
  split at h
  ·simp at h
  ·split at h
   ·rename_i hr
    rcases List.mem_cons.1 hy with rfl | hy
    ·exact hr
    ·exact usesFrom_right h y hy
   ·simp at h
abbrev Ab := Int × Int
def abB (x : Bg) : Ab := (x.kind, x.period)
def cntB (k t kn : Int) (x : Bg) : Bool := decide (x.at_ ≤ t ∧ x.known ≤ kn ∧ (x.kind = -1 ∨ x.kind = k))
def stB (m : List (Ab × Bg)) (x : Bg) : Bool := !x.gone && decide ((getM (abB x) m).getD zeroB = x)
def standB (k t kn : Int) (l : List Bg) : List Bg := l.filter (stB (lastM abB Bg.at_ (cntB k t kn) l))
def usedB (b : Bg) (t kn : Int) (x : Us) : Bool := decide (x.known ≤ kn ∧ (b.kind = -1 ∨ b.kind = x.kind) ∧ x.at_ / b.period = t / b.period)
def sumB (b : Bg) (t kn v : Int) (u : List Us) : Int := v + ((u.filter (usedB b t kn)).map Us.value).sum
def fitsB (t kn v : Int) (u : List Us) (b : Bg) : Bool := decide (1 + ((u.filter (usedB b t kn)).length : Int) ≤ b.count ∧ sumB b t kn v u ≤ b.value)
def roomB (l : List Bg) (u : List Us) (k v t kn : Int) : Bool := (standB k t kn l).all (fitsB t kn v u)
def argsB (k v t kn : Int) : Bool := decide (0 ≤ k ∧ k ≤ 15 ∧ 0 ≤ v ∧ v ≤ 1099511627776 ∧ 0 ≤ t ∧ t ≤ 1099511627775 ∧ 0 ≤ kn ∧ kn ≤ 1099511627775)
end Go.Bud
end
section
set_option maxRecDepth 4000
namespace Go.Bud
open Go.Rn Go.Rec
@[reducible] def Bg.cells (x : Bg) : List Value := [.int .i64 x.no, .int .i64 x.at_, .int .i64 x.known, .int .i64 x.kind, .int .i64 x.period, .int .i64 x.count, .int .i64 x.value, .bool x.gone]
theorem encBg : EncOk Bg.cells 8 := ⟨fun _ => rfl, fun _ => rfl, by decide⟩
abbrev bgV (x : Bg) : Value := .agg x.cells.toArray
@[reducible] def Us.cells (x : Us) : List Value := [.int .i64 x.doc, .int .i64 x.kind, .int .i64 x.value, .int .i64 x.at_, .int .i64 x.known]
theorem encUs : EncOk Us.cells 5 := ⟨fun _ => rfl, fun _ => rfl, by decide⟩
theorem chkB_len {l : List Bg} (h : chkB l = 0) : l.length ≤ 4096 := ((Go.Best.chk_ok (by decide)).1 h).1
def btw (lo hi : Int) (l : List Int) : Bool := !l.any fun n => decide (n < lo) || decide (hi < n)
theorem btw1 {lo hi a : Int} : btw lo hi [a] = decide (lo ≤ a ∧ a ≤ hi) := by
 unfold btw; rw [Bool.eq_iff_iff]; simp
theorem btw2 {lo hi a b : Int} : btw lo hi [a, b] = decide ((lo ≤ a ∧ a ≤ hi) ∧ (lo ≤ b ∧ b ≤ hi)) := by
 unfold btw; rw [Bool.eq_iff_iff]; simp
end Go.Bud
namespace Go.Sg
open Go.Rn Go.Proofs Go.Bud Go.Rec Go.Best
attribute [local irreducible] Go.Rn.RetsX Go.Rn.RunLN Go.Rn.AsyN Go.Rn.RunL Go.Rn.RunE Go.Rn.Asy Go.Rn.OpV Go.Rn.OpE Go.Rn.ExecE
theorem bodd_ok (lo hi n : Int) (b3 b4 : Nat) (w : World) (Y3 : Blk w b3 [.int .i64 lo] 3) (Y4 : Blk w b4 [.int .i64 hi] 3) :
  Rets Tryz.prog 78 [.int .i64 n, .pointer (some ⟨b3, 0, none⟩), .pointer (some ⟨b4, 0, none⟩)] w fun r w' => r = .bool (decide (n < lo) || decide (hi < n)) ∧ w = w' := by
 refine en Tryz.func78 13 fun hf_ => ?_
 repeat' (first | refine gn (fun h_ => ?_) (fun h_ => ?_) | fail)
 all_goals
  refine rt ?_
  exact ⟨congrArg Value.bool clB, rfl⟩
instance iBud1_1 (lo hi : Int) : PLi 41 [.int .i64 lo, .int .i64 hi] (fun l => .bool (btw lo hi l)) := ⟨fun w v l hv hl => by
 change Rets Tryz.prog 41 [.int .i64 lo, .int .i64 hi, v] w _
 obtain ⟨d, cp, rfl⟩ := isSl_slice hv
 refine en Tryz.func41 11 fun hf_ => ?_
 refine g1 (cs := [.int .i64 lo]) fun B3 w1 E1 G1 Z3 => ?_
 refine g1 (cs := [.int .i64 hi]) fun B4 w2 E2 G2 Z4 => ?_
 refine gc (icon_ok l (fun n => decide (n < lo) || decide (hi < n)) _ _ w2 hl (hv.up xt) (fun x _ w' e => RetsX.v (fi := []) (args := [.int .i64 x]) (ca := [.pointer (some ⟨B3, 0, none⟩), .pointer (some ⟨B4, 0, none⟩)]) ((bodd_ok lo hi x B3 B4 w' (Z3.up xt) (Z4.up xt)).mono fun _ _ h => ⟨h.1, by rw [h.2]; exact ExtB.refl _ _⟩))) ?_
 rintro _ w3 ⟨rfl, E3⟩
 refine rt ?_
 exact ⟨rfl, xt⟩⟩
instance iBud1_2 (x : Bg) : Px 69 [.agg x.cells.toArray] (.bool (rightB x)) := ⟨fun w => by
 obtain ⟨no, at_, known, kind, period, count, value, gone⟩ := x
 unfold rightB
 refine en Tryz.func69 45 fun hf_ => ?_
 refine g1 (cs := [.int .i64 no, .int .i64 at_, .int .i64 known, .int .i64 kind, .int .i64 period, .int .i64 count, .int .i64 value, .bool gone]) fun B w1 E1 G1 Z => ?_
 repeat' (first | refine gnx (fun ω E h_ => ?_) (fun ω E h_ => ?_) | fail)
 all_goals
  refine rt ?_
  refine ⟨congrArg Value.bool ?_, xt⟩
  simp only [btw1, btw2] at *
  cases gone <;> first | contradiction | exact clB⟩
theorem bcheck_ok (l : List Bg) (v : Value) (w : World) (hv : IsL w Bg.cells 8 v l) : Rets Tryz.prog 33 [v] w fun r w' => r = .int .i64 (chkB l) ∧ Ext w w' := by
 refine en Tryz.func33 27 fun hf_ => ?_
 refine gs (fun h => ?_) (fun h => ?_)
 ·refine rt ?_
  exact ⟨by rw [oneOr]; unfold chkB Best.chk; rw [if_pos (by simp at h; omega)], xt⟩
 have hle : ¬ 4096 < l.length := by simp at h; omega
 clear h
 refine g ?_
 refine RunE.loop (ι := Nat × Int) (fun x => [(9, v), (10, .int .i64 (l.length : Int)), (3, .int .i64 x.2), (11, .int .i64 (x.1 : Int))])
  (fun x w' => x.1 ≤ l.length ∧ good Bg.no rightB x.2 (l.drop x.1) = good Bg.no rightB (-1) l ∧ Ext w w') (fun x => l.length - x.1) (0, -1) sb_ ⟨Nat.zero_le _, rfl, xt⟩ ?_
 rintro ⟨i, last⟩ w3 ⟨hi, hg, X⟩ again
 simp only at hi hg again ⊢
 have bad : good Bg.no rightB (-1) l = false → ∀ c : Int, Value.int .i64 180 = .int .i64 (chkB l) := fun h _ => by
  unfold chkB Best.chk; rw [if_neg hle, if_neg (by rw [h]; simp)]
 by_cases hlt : i < l.length
 ·obtain ⟨b, o, cap, rfl, hr, hc⟩ := isL_held hv hlt
  obtain ⟨x, hx⟩ : ∃ x, l[i]? = some x := ⟨_, List.getElem?_eq_getElem hlt⟩
  have hrx := flat_row encBg hr hx
  have hd : l.drop i = x :: l.drop (i + 1) := by
   obtain ⟨hi, e⟩ := List.getElem?_eq_some_iff.1 hx
   rw [List.drop_eq_getElem_cons hi, e]
  rw [hd] at hg
  simp only [good] at hg
  refine g1 (cs := x.cells) fun B w4 E4 G Z => ?_
  cases hrt : rightB x with
  | false =>
   rw [hrt, Bool.false_and, Bool.false_and] at hg
   refine rt ?_
   exact ⟨bad hg.symm 0, xt⟩
  | true =>
   rw [hrt, Bool.true_and] at hg
   by_cases hlast : last < x.no
   ·rw [decide_eq_true hlast, Bool.true_and] at hg
    refine g ?_
    refine RunE.weaken sb_ (again (i + 1, x.no) _ (by simp only; omega) ⟨by simp only; omega, hg, xt⟩)
   ·rw [decide_eq_false hlast, Bool.false_and] at hg
    refine rt ?_
    exact ⟨bad hg.symm 0, xt⟩
 ·obtain rfl : i = l.length := by omega
  rw [List.drop_length] at hg
  simp only [good] at hg
  refine rt ?_
  exact ⟨by rw [oneOr]; unfold chkB Best.chk; rw [if_neg hle, if_pos hg.symm], xt⟩
end Go.Sg
end
section
set_option maxRecDepth 4000
namespace Go.Bud
open Go.Rn Go.Rec
def abC (s : Ab) : List Value := [.int .i64 s.1, .int .i64 s.2]
abbrev abV : Ab → Value := encV' abC
end Go.Bud
namespace Go.Sg
open Go.Rn Go.Proofs Go.Bud Go.Rec Go.Best
attribute [local irreducible] Go.Rn.RetsX Go.Rn.RunLN Go.Rn.AsyN Go.Rn.RunL Go.Rn.RunE Go.Rn.Asy Go.Rn.OpV Go.Rn.OpE Go.Rn.ExecE
abbrev kvJ : Int → Value := Value.int .i64
instance iBud2_1 : MapA 155 kvJ Value.bool false := ⟨⟨_, _, Tryz.underlying155, keyOk_int Tryz.underlying3, by kernel_rfl⟩⟩
theorem bgFlat : Flat Tryz.prog 105 [(3, .int .i64), (3, .int .i64), (3, .int .i64), (3, .int .i64), (3, .int .i64), (3, .int .i64), (3, .int .i64), (4, .bool)] :=
  ⟨by kernel_rfl, by kernel_rfl, by kernel_rfl, by kernel_rfl, by kernel_rfl, fun x hx => by
    simp only [List.mem_cons, List.not_mem_nil, or_false] at hx
    rcases hx with rfl | rfl | rfl | rfl | rfl | rfl | rfl | rfl <;> first | exact ⟨Tryz.underlying4, by kernel_rfl, by kernel_rfl⟩ | exact ⟨Tryz.underlying3, by kernel_rfl, by kernel_rfl⟩⟩
theorem abFlat : Flat Tryz.prog 160 [(3, .int .i64), (3, .int .i64)] :=
  ⟨by kernel_rfl, by kernel_rfl, by kernel_rfl, by kernel_rfl, by kernel_rfl, fun x hx => by
    simp only [List.mem_cons, List.not_mem_nil, or_false] at hx
    rcases hx with rfl | rfl <;> first | exact ⟨Tryz.underlying3, by kernel_rfl, by kernel_rfl⟩⟩
instance iBud2_2 (a b : Bg) : EqA 105 (bgV a) (bgV b) (decide (a = b)) := .of bgFlat fitsC fitsC (by
  obtain ⟨⟩ := a; obtain ⟨⟩ := b
  rw [Bool.eq_iff_iff]; simp [eqAll, veq, and_assoc])
theorem abKey : KeyOk Tryz.prog 160 abV fun _ => True := keyOk_flat abFlat (fun _ => by unfold abC; exact fitsC) fun a b => by
  obtain ⟨a1, a2⟩ := a; obtain ⟨b1, b2⟩ := b
  rw [Bool.eq_iff_iff]; simp [eqAll, veq, abC]
instance iBud2_3 (a b : Int) : KeyOf abV (.agg #[.int .i64 a, .int .i64 b]) (a, b) := ⟨rfl⟩
instance iBud2_4 (x : Bg) : KeyOf abV (.agg (abC (abB x)).toArray) (abB x) := ⟨rfl⟩
instance iBud2_5 : MapA 158 abV bgV zeroB := ⟨⟨_, _, Tryz.underlying158, abKey, by kernel_rfl⟩⟩
theorem buses_ok (u : List Us) (v : Value) (w : World) (hl : u.length ≤ 100000) (hv : IsL w Us.cells 5 v u) : Rets Tryz.prog 40 [v] w fun r w' => r = .bool (usesB u) ∧ Ext w w' := by
  obtain ⟨d, cp, rfl⟩ := isSl_slice hv
  refine en Tryz.func40 51 fun hf_ => ?_
  refine g ?_
  refine RunL.ex rfl rfl rfl (mm kvJ Value.bool) ?_
  rintro _ w1 ⟨R, rfl, gR, E1, M⟩
  refine g ?_
  refine rangeL hv encUs 7 8 9 (fun _ : MetB => [(3, .map (some R))]) (fun i m w' => usesB u = usesFrom m (u.drop i) ∧ MapW w' R kvJ Value.bool m ∧ Ext w w') [] sb_ ⟨rfl, M, E1⟩ ?_ ?_
  · rintro i m x w2 hx ⟨h1, M, X⟩ b o cap hve hrx hlt again
    cases hve
    have hd : u.drop i = x :: u.drop (i + 1) := by
      obtain ⟨hi, e⟩ := List.getElem?_eq_some_iff.1 hx
      rw [List.drop_eq_getElem_cons hi, e]
    rw [hd] at h1
    simp only [usesFrom] at h1
    cases hm : (getM x.doc m).getD false with
    | true =>
      rw [hm, if_pos rfl] at h1
      refine g1 (cs := x.cells) fun B w3 E3 G3 Z => ?_
      refine rt ?_
      exact ⟨by rw [h1]; rfl, xt⟩
    | false =>
      rw [hm, if_neg (by simp)] at h1
      refine g1 (cs := x.cells) fun B w3 E3 G3 Z => ?_
      cases hr : rightU x with
      | false =>
        rw [hr, if_neg (by simp)] at h1
        have hr' := of_decide_eq_false hr
        repeat' (first | refine gnx (fun ω E h_ => ?_) (fun ω E h_ => ?_) | fail)
        all_goals first
          | (exfalso; simp only [btw1, btw2, decide_eq_true_eq] at *; exact hr' (by omega))
          | (refine rt ?_
             exact ⟨by rw [h1]; rfl, xt⟩)
      | true =>
        rw [hr, if_pos rfl] at h1
        have hr' := of_decide_eq_true hr
        repeat' (first | refine gnx (fun ω E h_ => ?_) (fun ω E h_ => ?_) | fail)
        all_goals first
          | (exfalso; simp only [btw1, btw2, decide_eq_false_iff_not] at *; omega)
          | (refine gx fun w4 E4 => ?_
             refine RunL.exN rfl rfl (ms rfl rfl rfl M xt inferInstance inferInstance (u := true) rfl) ?_
             rintro _ w9 ⟨M9, E9, -⟩
             have X4 : Ext w w4 := xt
             refine g ?_
             exact RunE.weaken sb_ (again _ w9 ⟨h1, M9, X4.write E9 (by intro k hk hlt; omega)⟩))
  · rintro m w2 ⟨h1, M, X⟩
    rw [List.drop_length] at h1
    refine rt ?_
    exact ⟨by rw [h1]; rfl, X⟩
end Go.Sg
end
section
set_option maxRecDepth 4000
namespace Go.Bud
open Go.Rn
abbrev usedV (b5 b7 b4 b6 : Nat) : Value := .func (.func 79) #[] #[.pointer (some ⟨b5, 0, none⟩), .pointer (some ⟨b7, 0, none⟩), .pointer (some ⟨b4, 0, none⟩), .pointer (some ⟨b6, 0, none⟩)]
end Go.Bud
namespace Go.Sg
open Go.Rn Go.Proofs Go.Bud Go.Rec Go.Best
attribute [local irreducible] Go.Rn.RetsX Go.Rn.RunLN Go.Rn.AsyN Go.Rn.RunL Go.Rn.RunE Go.Rn.Asy Go.Rn.OpV Go.Rn.OpE Go.Rn.ExecE
theorem bstanding_ok (k t kn : Int) (l : List Bg) (v : Value) (w : World) (hl : l.length ≤ 100000) (hv : IsL w Bg.cells 8 v l) :
    Rets Tryz.prog 42 [v, .int .i64 k, .int .i64 t, .int .i64 kn] w fun r w' => IsL w' Bg.cells 8 r (standB k t kn l) ∧ Ext w w' := by
  obtain ⟨d, cp, rfl⟩ := isSl_slice hv
  refine en Tryz.func42 95 fun hf_ => ?_
  refine g ?_
  refine RunL.ex rfl rfl rfl (mm abV bgV) ?_
  rintro _ w6 ⟨R, rfl, hR, X6, M⟩
  refine g ?_
  refine rangeL hv encBg 18 19 20 (fun _ : Unit => [(0, .slice d l.length cp), (1, .int .i64 k), (2, .int .i64 t), (3, .int .i64 kn), (8, .slice none 0 0), (9, .map (some R))])
    (fun i _ w' => Ext w w' ∧ MapW w' R abV bgV (lastM abB Bg.at_ (cntB k t kn) (l.take i))) () sb_ ⟨X6, M⟩ ?_ ?_
  · rintro i ⟨⟩ x w7 hx ⟨X, M⟩ b o cap hve hrx hlt again
    cases hve
    rw [lastM_snoc abB Bg.at_ (cntB k t kn) hx] at again
    generalize lastM abB Bg.at_ (cntB k t kn) (l.take i) = m at M again
    have skip : lastStep abB Bg.at_ (cntB k t kn) m x = m → ∀ w9, Ext w7 w9 → _ := fun h w9 E => again () w9 ⟨X.trans E, by rw [h]; exact M.up E⟩
    have set : lastStep abB Bg.at_ (cntB k t kn) m x = setM (abB x) x m → ∀ w9 w11, Ext w7 w9 → ExtB (· = R) w9 w11 → MapW w11 R abV bgV (setM (abB x) x m) → _ := fun h w9 w11 E e hM => again () w11 ⟨(X.trans E).write e (by intro k hk hlt; omega), by rw [h]; exact hM⟩
    unfold lastStep newer at skip set
    cases hc : cntB k t kn x with
    | false =>
      have hc' := of_decide_eq_false hc
      refine g1 (cs := x.cells) fun B9 w9 E9 G9 Z9 => ?_
      repeat' (first | refine gn (fun h_ => ?_) (fun h_ => ?_) | fail)
      all_goals first
        | (exfalso; simp only [decide_eq_true_eq, decide_eq_false_iff_not, bne_iff_ne, bne_eq_false_iff_eq, ne_eq, gt_iff_lt, Int.not_lt] at *; exact hc' (by omega))
        | (refine g ?_
           exact RunE.weaken sb_ (skip (by rw [hc]; rfl) w9 E9))
    | true =>
      obtain ⟨c1, c2, c3⟩ := of_decide_eq_true hc
      rw [hc] at skip set
      have c4 : x.kind = -1 ∨ (x.kind ≠ -1 ∧ x.kind = k) := by omega
      clear c3
      cases hg : getM (abB x) m with
      | none =>
        rcases c4 with h | ⟨h, h'⟩
        all_goals
          refine g1 (cs := x.cells) fun B9 w9 E9 G9 Z9 => ?_
          refine g1 (cs := abC (abB x)) fun B10 w10 E10 G10 Z10 => ?_
          refine g1 (cs := zeroB.cells) fun B11 w11 E11 G11 Z11 => ?_
          refine RunL.exN rfl rfl (ms rfl rfl rfl M xt inferInstance inferInstance (u := x) rfl) ?_
          rintro _ w12 ⟨M12, E12, -⟩
          refine g ?_
          exact RunE.weaken sb_ (set (by rw [hg]; rfl) w11 w12 xt E12 M12)
      | some y =>
        rw [hg] at skip set
        by_cases hle : y.at_ ≤ x.at_
        · rcases c4 with h | ⟨h, h'⟩
          all_goals
            refine g1 (cs := x.cells) fun B9 w9 E9 G9 Z9 => ?_
            refine g1 (cs := abC (abB x)) fun B10 w10 E10 G10 Z10 => ?_
            refine g1 (cs := y.cells) fun B11 w11 E11 G11 Z11 => ?_
            refine RunL.exN rfl rfl (ms rfl rfl rfl M xt inferInstance inferInstance (u := x) rfl) ?_
            rintro _ w12 ⟨M12, E12, -⟩
            refine g ?_
            exact RunE.weaken sb_ (set (by simp [hle]) w11 w12 xt E12 M12)
        · rcases c4 with h | ⟨h, h'⟩
          all_goals
            refine g1 (cs := x.cells) fun B9 w9 E9 G9 Z9 => ?_
            refine g1 (cs := abC (abB x)) fun B10 w10 E10 G10 Z10 => ?_
            refine g1 (cs := y.cells) fun B11 w11 E11 G11 Z11 => ?_
            exact RunE.weaken sb_ (skip (by simp [hle]) w11 xt)
  · rintro ⟨⟩ w7 ⟨X, M⟩
    rw [List.take_length] at M
    unfold standB
    generalize lastM abB Bg.at_ (cntB k t kn) l = m at M
    refine g ?_
    refine rangeL (hv.up X) encBg 69 70 71 (fun s : Value => [(8, s), (9, .map (some R))])
      (fun i s w' => w'.ownsRow w7.heap.size 105 8 s ((l.take i).filter (stB m)).length (flat Bg.cells ((l.take i).filter (stB m))) ∧ Ext w7 w') (.slice none 0 0) sb_ ⟨World.ownsRow_nil _ _ _ _, ExtB.refl _ _⟩ ?_ ?_
    · rintro i s x w8 hx ⟨hO, X8⟩ b o cap hve hrx hlt again
      cases hve
      have hst : stB m x = (!x.gone && decide ((getM (abB x) m).getD zeroB = x)) := rfl
      obtain ⟨f1, f2⟩ := filter_take (stB m) hx
      have hlen : ((l.take i).filter (stB m)).length ≤ l.length := Nat.le_trans (List.length_filter_le _ _) (by rw [List.length_take]; omega)
      have skip : stB m x = false → ∀ w9, Ext w8 w9 → _ := fun h w9 E => again s w9 ⟨by rw [f1, h]; simpa using ownsRow_ext hO E (fun _ _ h => h), X8.trans E⟩
      cases h1 : x.gone with
      | true =>
        refine g1 (cs := x.cells) fun B9 w9 E9 G9 Z9 => ?_
        refine gx fun w10 E10 => ?_
        exact RunE.weaken sb_ (skip (by rw [hst, h1]; rfl) w10 xt)
      | false =>
        cases h2 : decide ((getM (abB x) m).getD zeroB = x) with
        | false =>
          refine g1 (cs := x.cells) fun B9 w9 E9 G9 Z9 => ?_
          refine gx fun w10 E10 => ?_
          exact RunE.weaken sb_ (skip (by rw [hst, h1, h2]; rfl) w10 xt)
        | true =>
          have hs : stB m x = true := by rw [hst, h1, h2]; rfl
          rw [f1, hs, if_pos rfl, flat_append, List.length_append] at again
          refine g1 (cs := x.cells) fun B9 w9 E9 G9 Z9 => ?_
          refine gx fun w10 E10 => ?_
          refine RunL.ex rfl rfl rfl (OpE.buildSl Tryz.tOk [bgV x] rfl rfl rfl rfl rfl rfl (by simp [Value.cells])) ?_
          rintro _ w11 ⟨B, rfl, a⟩
          have E11 := a.ext
          have hx1 : IsL w11 Bg.cells 8 (.slice (some ⟨B, 0, none⟩) 1 1) [x] := by
            have := isSl_added (n := 1) (sz := 8) a rfl
            simpa [IsL, flat, cellsAll, Value.cells] using this
          have hO11 := ownsRow_ext hO (xt : Ext w8 w11) (fun _ _ h => h)
          have hsz := X8.size
          have hsz2 := (xt : Ext w8 w11).size
          refine g ?_
          refine RunL.ex rfl rfl rfl (OpE.append' Tryz.tOk rfl rfl rfl rfl rfl rfl hO11 hx1 (flat_plain encBg [x]) (by show _ * 64 ≤ _; simp only [List.length_singleton]; omega) (by simp only [List.length_singleton]; omega) (by omega)) ?_
          rintro y' w12 ⟨O12, E12, -⟩
          refine g ?_
          exact RunE.weaken sb_ (again y' w12 ⟨O12, (X8.trans (xt : Ext w8 w11)).write E12 (by intro k hk hlt; have := ownsRow_ge hO11 hk; omega)⟩)
    · rintro s w8 ⟨hO, X8⟩
      rw [List.take_length] at hO
      refine rt ?_
      exact ⟨isSl_own hO, X.trans X8⟩
end Go.Sg
end
section
set_option maxRecDepth 4000
namespace Go.Bud
open Go.Rn
theorem sum_bound : ∀ (l : List Us), (∀ x ∈ l, rightU x = true) → 0 ≤ (l.map Us.value).sum ∧ (l.map Us.value).sum ≤ l.length * 1099511627776
 | [], _ => by simp
 | x :: r, h => by
  obtain ⟨h1, h2⟩ := sum_bound r fun y hy => h y (List.mem_cons_of_mem _ hy)
  have h3 := of_decide_eq_true (h x List.mem_cons_self)
  simp only [List.map_cons, List.sum_cons, List.length_cons]; omega
end Go.Bud
namespace Go.Sg
open Go.Rn Go.Proofs Go.Bud Go.Rec Go.Best
attribute [local irreducible] Go.Rn.RetsX Go.Rn.RunLN Go.Rn.AsyN Go.Rn.RunL Go.Rn.RunE Go.Rn.Asy Go.Rn.OpV Go.Rn.OpE Go.Rn.ExecE
theorem used_gives (bg : Bg) (u : List Us) (v : Value) (t kn : Int) (b4 b5 b6 b7 : Nat) (w0 : World) (hl : u.length ≤ 100000) (hp : 1 ≤ bg.period) (ht : 0 ≤ t ∧ t ≤ 1099511627775) (hu : ∀ x ∈ u, rightU x = true) (hv : IsL w0 Us.cells 5 v u)
  (Y4 : Blk w0 b4 bg.cells 105) (Y5 : Blk w0 b5 [v] 32) (Y6 : Blk w0 b6 [.int .i64 t] 3) (Y7 : Blk w0 b7 [.int .i64 kn] 3) :
  Gives Tryz.prog (usedV b5 b7 b4 b6) ((u.filter (usedB bg t kn)).map fun x => [.int .i64 x.value]) w0 (fun k => k = b4 ∨ k = b5 ∨ k = b6 ∨ k = b7 ∨ (u ≠ [] ∧ v.ownBlock = some k)) := by
 intro S J y w hS hJ0 hJX hJup hy
 refine RetsX.v (fi := []) (args := [y]) (ca := [.pointer (some ⟨b5, 0, none⟩), .pointer (some ⟨b7, 0, none⟩), .pointer (some ⟨b4, 0, none⟩), .pointer (some ⟨b6, 0, none⟩)]) ?_
 change RetsX Tryz.prog 79 [y, .pointer (some ⟨b5, 0, none⟩), .pointer (some ⟨b7, 0, none⟩), .pointer (some ⟨b4, 0, none⟩), .pointer (some ⟨b6, 0, none⟩)] _ _ _
 have at0 : ∀ i u, J i u → Blk u b4 bg.cells 105 ∧ Blk u b5 [v] 32 ∧ Blk u b6 [.int .i64 t] 3 ∧ Blk u b7 [.int .i64 kn] 3 := fun i u h => by
  have e := hJX i u h
  exact ⟨Y4.ext e (hS _ (by simp)), Y5.ext e (hS _ (by simp)), Y6.ext e (hS _ (by simp)), Y7.ext e (hS _ (by simp))⟩
 refine en Tryz.func79 50 fun hf_ => ?_
 obtain ⟨-, U5, -, -⟩ := at0 0 w hJ0
 refine g ?_
 refine rangeL hv encUs 8 9 10 (fun _ : Unit => [(0, y), (1, .pointer (some ⟨b5, 0, none⟩)), (2, .pointer (some ⟨b7, 0, none⟩)), (3, .pointer (some ⟨b4, 0, none⟩)), (4, .pointer (some ⟨b6, 0, none⟩))])
  (fun i _ w' => J ((u.take i).filter (usedB bg t kn)).length w') () sb_ (by simpa using hJ0) ?_ ?_
 ·rintro i ⟨⟩ x w3 hx hJ b o cap rfl hrx hlt again
  obtain ⟨U4, -, U6, U7⟩ := at0 _ w3 hJ
  replace hrx := hrx.ext (hJX _ _ hJ) (hS b (.inr (.inr (.inr (.inr ⟨List.ne_nil_of_length_pos (by omega), rfl⟩)))))
  obtain ⟨f1, f2⟩ := filter_take (usedB bg t kn) hx
  have skip : usedB bg t kn x = false → ∀ w5, Ext w3 w5 → _ := fun h w5 E5 => again () w5 (by rw [f1, h]; simpa using hJup _ _ _ hJ E5)
  have give : usedB bg t kn x = true → ∀ w5, J (((u.take i).filter (usedB bg t kn)).length + 1) w5 → _ := fun h w5 H => again () w5 (by rw [f1, h]; simpa using H)
  replace hy := fun h w5 E => hy _ [.int .i64 x.value] w5 (by rw [List.getElem?_map, f2 h]; rfl) (hJup _ _ _ hJ E)
  have hxr := of_decide_eq_true (hu x (List.mem_of_getElem? hx))
  have hst : usedB bg t kn x = decide (x.known ≤ kn ∧ (bg.kind = -1 ∨ bg.kind = x.kind) ∧ x.at_ / bg.period = t / bg.period) := rfl
  rw [hst] at skip give hy
  by_cases k1 : x.known ≤ kn
  ·cases h3 : (x.at_ / bg.period == t / bg.period) with
   | true =>
    have h3' := beq_iff_eq.1 h3
    by_cases k2 : bg.kind = -1
    ·refine g1 (cs := x.cells) fun B5 w4 E4 G4 Z5 => ?_
     refine gx fun w5 E5 => ?_
     refine RunL.ex rfl rfl rfl (OpE.callV rfl rfl (hy (decide_eq_true ⟨k1, .inl k2, h3'⟩) w5 xt)) ?_
     rintro _ w6 ⟨rfl, hJ6⟩
     refine g ?_
     exact RunE.weaken sb_ (give (decide_eq_true ⟨k1, .inl k2, h3'⟩) w6 hJ6)
    ·by_cases k4 : bg.kind = x.kind
     ·refine g1 (cs := x.cells) fun B5 w4 E4 G4 Z5 => ?_
      refine gx fun w5 E5 => ?_
      refine RunL.ex rfl rfl rfl (OpE.callV rfl rfl (hy (decide_eq_true ⟨k1, .inr k4, h3'⟩) w5 xt)) ?_
      rintro _ w6 ⟨rfl, hJ6⟩
      refine g ?_
      exact RunE.weaken sb_ (give (decide_eq_true ⟨k1, .inr k4, h3'⟩) w6 hJ6)
     ·refine g1 (cs := x.cells) fun B5 w4 E4 G4 Z5 => ?_
      refine gx fun w5 E5 => ?_
      exact RunE.weaken sb_ (skip (decide_eq_false fun h => by rcases h.2.1 with h | h <;> omega) _ xt)
   | false =>
    have h3' := beq_eq_false_iff_ne.1 h3
    by_cases k2 : bg.kind = -1
    ·refine g1 (cs := x.cells) fun B5 w4 E4 G4 Z5 => ?_
     refine gx fun w5 E5 => ?_
     exact RunE.weaken sb_ (skip (decide_eq_false fun h => h3' h.2.2) _ xt)
    ·by_cases k4 : bg.kind = x.kind
     all_goals
      refine g1 (cs := x.cells) fun B5 w4 E4 G4 Z5 => ?_
      refine gx fun w5 E5 => ?_
      exact RunE.weaken sb_ (skip (decide_eq_false fun h => h3' h.2.2) _ xt)
  ·refine g1 (cs := x.cells) fun B5 w4 E4 G4 Z5 => ?_
   refine gx fun w5 E5 => ?_
   exact RunE.weaken sb_ (skip (decide_eq_false fun h => k1 h.1) _ xt)
 ·intro s w3 hJ
  rw [List.take_length] at hJ
  refine g ?_
  refine RunE.fallFn hf_ .nil ?_
  rw [List.length_map]; exact hJ
theorem bused_ok (bg : Bg) (u : List Us) (v : Value) (t kn : Int) (w : World) (hl : u.length ≤ 100000) (hp : 1 ≤ bg.period) (ht : 0 ≤ t ∧ t ≤ 1099511627775) (hu : ∀ x ∈ u, rightU x = true) (hv : IsL w Us.cells 5 v u) :
  Rets Tryz.prog 43 [bgV bg, v, .int .i64 t, .int .i64 kn] w fun r w' => (∃ F : Nat → Prop, Gives Tryz.prog r ((u.filter (usedB bg t kn)).map fun x => [.int .i64 x.value]) w' F ∧ ∀ k, F k → k < w'.heap.size ∧ (w.heap.size ≤ k ∨ (u ≠ [] ∧ v.ownBlock = some k))) ∧ Ext w w' := by
 obtain ⟨d, cp, rfl⟩ := isSl_slice hv
 refine en Tryz.func43 10 fun hf_ => ?_
 refine g1 (cs := bg.cells) fun B4 w1 E1 G1 Z4 => ?_
 refine g1 (cs := [.slice d u.length cp]) fun B5 w2 E2 G2 Z5 => ?_
 refine g1 (cs := [.int .i64 t]) fun B6 w3 E3 G3 Z6 => ?_
 refine g1 (cs := [.int .i64 kn]) fun B7 w4 E4 G4 Z7 => ?_
 refine rt ?_
 have X : Ext w w4 := xt
 have s1 := E1.size
 have s2 := E2.size
 have s3 := E3.size
 refine ⟨⟨_, used_gives bg u _ t kn B4 B5 B6 B7 w4 hl hp ht hu (hv.up X) (Z4.up xt) (Z5.up xt) (Z6.up xt) Z7, fun k hk => ?_⟩, X⟩
 have e4 := (Z4.up (xt : Ext w1 w4)).lt
 have e5 := (Z5.up (xt : Ext w2 w4)).lt
 have e6 := (Z6.up (xt : Ext w3 w4)).lt
 have e7 := Z7.lt
 rcases hk with rfl | rfl | rfl | rfl | h
 ·exact ⟨e4, .inl G1⟩
 ·exact ⟨e5, .inl (by omega)⟩
 ·exact ⟨e6, .inl (by omega)⟩
 ·exact ⟨e7, .inl (by omega)⟩
 ·exact ⟨Nat.lt_of_lt_of_le (isL_own hv (by decide) h.1 h.2) X.size, .inr h⟩
end Go.Sg
end
section
set_option maxRecDepth 4000
namespace Go.Sg
open Go.Rn Go.Proofs Go.Bud Go.Rec Go.Best
attribute [local irreducible] Go.Rn.RetsX Go.Rn.RunLN Go.Rn.AsyN Go.Rn.RunL Go.Rn.RunE Go.Rn.Asy Go.Rn.OpV Go.Rn.OpE Go.Rn.ExecE
theorem broom_ok (l : List Bg) (u : List Us) (lv uv : Value) (k v t kn : Int) (w : World) (hc : chkB l = 0) (hul : u.length ≤ 4096) (ha : argsB k v t kn = true) (hv : IsL w Bg.cells 8 lv l) (hu : IsL w Us.cells 5 uv u) :
  Rets Tryz.prog 14 [lv, uv, .int .i64 k, .int .i64 v, .int .i64 t, .int .i64 kn] w fun r w' => (∃ no : Int, r = .tuple #[.int .i64 no, .bool (usesB u && roomB l u k v t kn), .int .i64 (if usesB u then 0 else 180)]) ∧ Ext w w' := by
 obtain ⟨d, cp, rfl⟩ := isSl_slice hv
 obtain ⟨d2, cp2, rfl⟩ := isSl_slice hu
 obtain ⟨a1, a2, a3, a4, a5, a6, a7, a8⟩ := of_decide_eq_true ha
 have hl := chkB_len hc
 refine en Tryz.func14 84 fun hf_ => ?_
 refine gc (bcheck_ok l _ w hv) ?_
 rintro _ w1 ⟨rfl, E1⟩
 rw [hc]
 refine gc (buses_ok u _ w1 (by omega) (hu.up E1)) ?_
 rintro _ w2 ⟨rfl, E2⟩
 cases hus : usesB u with
 | false =>
  refine rt ?_
  exact ⟨⟨_, rfl⟩, xt⟩
 | true =>
 have hur := usesFrom_right hus
 have b1 : btw 0 15 [k] = true := by rw [btw1]; exact decide_eq_true (by omega)
 have b2 : btw 0 1099511627776 [v] = true := by rw [btw1]; exact decide_eq_true (by omega)
 have b3 : btw 0 1099511627775 [t, kn] = true := by rw [btw2]; exact decide_eq_true (by omega)
 refine gx fun w3 E3 => ?_
 have X3 : Ext w w3 := xt
 refine gc (bstanding_ok k t kn l _ w3 (by omega) (hv.up X3)) ?_
 rintro sv w4 ⟨hs, E4⟩
 have X4 : Ext w w4 := X3.trans E4
 have hsr : ∀ x ∈ standB k t kn l, rightB x = true := fun x hx => (good_srt ((chk_ok (by decide)).1 hc).2).2 x (List.mem_filter.1 hx).1 |>.2
 have hsl : (standB k t kn l).length ≤ l.length := List.length_filter_le _ _
 have hR : roomB l u k v t kn = (standB k t kn l).all (fitsB t kn v u) := rfl
 generalize standB k t kn l = st at hs hsr hsl hR
 rw [hR]
 obtain ⟨d3, cp3, rfl⟩ := isSl_slice hs
 refine g ?_
 refine RunE.loopD (ι := Nat × List Nat) (fun s => [(53, .slice d3 st.length cp3), (54, .int .i64 (st.length : Int)), (55, .int .i64 (s.1 : Int)), (1, .slice d2 u.length cp2), (3, .int .i64 v), (4, .int .i64 t), (5, .int .i64 kn)]) (fun s => s.2.map markOf)
  (fun s w' => s.1 ≤ st.length ∧ st.all (fitsB t kn v u) = (st.drop s.1).all (fitsB t kn v u) ∧ Ext w4 w' ∧ (∀ D ∈ s.2, w'.heap[D]? = some (.deferred (some []))) ∧ s.2.Nodup ∧ ∀ D ∈ s.2, w4.heap.size ≤ D ∧ D < w'.heap.size) (fun s => st.length - s.1) (0, []) sb_ rfl
  ⟨Nat.zero_le _, rfl, ExtB.refl _ _, by simp, List.nodup_nil, by simp⟩ ?_
 rintro ⟨i, Ds⟩ w5 ⟨hi, h1, X5, hD, hN, hB⟩ again
 simp only at hi h1 hD hN hB again ⊢
 by_cases hlt : i < st.length
 ·obtain ⟨b, o, cap, hve, hr, hcp⟩ := isL_held hs hlt
  cases hve
  obtain ⟨x, hx⟩ : ∃ x, st[i]? = some x := ⟨_, List.getElem?_eq_getElem hlt⟩
  have hrx := flat_row encBg hr hx
  have hd : st.drop i = x :: st.drop (i + 1) := by
   obtain ⟨hi, e⟩ := List.getElem?_eq_some_iff.1 hx
   rw [List.drop_eq_getElem_cons hi, e]
  rw [hd, List.all_cons] at h1
  have hxr := of_decide_eq_true (hsr x (List.mem_of_getElem? hx))
  refine g1 (cs := x.cells) fun B17 w6 E6 G6 Z17 => ?_
  refine g1 (cs := [.int .i64 0]) fun B18 w7 E7 G7 Z18 => ?_
  refine g1 (cs := [.int .i64 0]) fun B19 w8 E8 G8 Z19 => ?_
  have l17 := Z17.lt
  have l18 := Z18.lt
  refine RunL.store Tryz.tOk rfl rfl rfl rfl rfl (Z18.up E8) rfl rfl fun w9 t9 => ?_
  have Z18 : Blk w9 B18 [.int .i64 1] 3 := t9.at_
  have Z19 := Z19.ext t9.ext (by omega)
  have Z17 := (Z17.up (xt : Ext w6 w8)).ext t9.ext (by omega)
  refine RunL.store Tryz.tOk rfl rfl rfl rfl rfl Z19 rfl rfl fun w10 t10 => ?_
  have Z19 : Blk w10 B19 [.int .i64 v] 3 := t10.at_
  have Z18 := Z18.ext t10.ext (by omega)
  have Z17 := Z17.ext t10.ext (by omega)
  have s5 := (xt : Ext w5 w6).size
  have s7 := E7.size
  have s8 := E8.size
  have s9 := t9.ext.size
  have s10 := t10.ext.size
  have X10 : Ext w5 w10 := (ExtB.write (xt : Ext w5 w8) t9.ext (by intro k hk hlt; omega)).write t10.ext (by intro k hk hlt; omega)
  clear t9 t10
  have hs5 := X5.size
  have Y : Ext w w10 := (X4.trans X5).trans X10
  refine gc (bused_ok x u _ t kn w10 (by omega) (by omega) (by omega) hur (hu.up Y)) ?_
  rintro fv w11 ⟨⟨F, hG, hF⟩, E11⟩
  have l19' := Z19.lt
  replace Z17 := Z17.up E11
  replace Z18 := Z18.up E11
  replace Z19 := Z19.up E11
  have s11 := E11.size
  have l19 := Z19.lt
  have huo : ∀ k, (Value.slice d2 u.length cp2).ownBlock = some k → u ≠ [] → k < w.heap.size := fun k h1 h2 => isL_own hu (by decide) h2 h1
  have hws := (X4.trans X5).size
  have hfit : fitsB t kn v u x = decide (1 + (((u.filter (usedB x t kn)).map Us.value).length : Int) ≤ x.count ∧ v + ((u.filter (usedB x t kn)).map Us.value).sum ≤ x.value) := by
   unfold fitsB sumB; rw [List.length_map]
  have hfl : ((u.filter (usedB x t kn))).length ≤ 4096 := Nat.le_trans (List.length_filter_le _ _) hul
  have hfr : ∀ y ∈ u.filter (usedB x t kn), rightU y = true := fun y hy => hur y (List.mem_filter.1 hy).1
  have hDe : ∀ D ∈ Ds, w11.heap[D]? = some (.deferred (some [])) := fun D h => obj_ext (hD D h) (X10.trans E11) id
  generalize u.filter (usedB x t kn) = us at hG hfit hfl hfr
  refine g ?_
  refine RunE.rangeGives (w0 := w11) (F := F) rfl ⟨_, hf_⟩ rfl hG (fun k => k = B18 ∨ k = B19) (fun k hk => ?_) (ExtB.refl _ _) (fun ys hx => ?_) rfl
   (fun j w' => Blk w' B18 [.int .i64 (1 + (j : Int))] 3 ∧ Blk w' B19 [.int .i64 (v + ((us.take j).map Us.value).sum)] 3 ∧ w11.heap.size + 2 ≤ w'.heap.size ∧ ExtB (fun k => k = B18 ∨ k = B19) w11 w') ?_ ?_ ?_ ?_ ?_
  ·obtain ⟨g1, g2⟩ := hF k hk
   refine ⟨fun h => ?_, g1⟩
   rcases g2 with g2 | g2
   ·rcases h with rfl | rfl <;> omega
   ·have := huo k g2.2 g2.1
    rcases h with rfl | rfl <;> omega
  ·simp only [List.mem_map] at hx
   obtain ⟨a, -, rfl⟩ := hx; rfl
  ·intro w2 e hsz
   exact ⟨by simpa using Z18.up e, by simpa using Z19.up e, by omega, ExtB.of_ext e⟩
  ·rintro j u' ⟨-, -, -, h⟩; exact h
  ·rintro j u' u'' ⟨g1, g2, g3, g4⟩ e
   exact ⟨g1.ext e (by rintro (h | h) <;> omega), g2.ext e (by rintro (h | h) <;> omega), by have := e.size; omega, g4.write e (by rintro k (h | h) hlt <;> omega)⟩
  ·rintro j ys u' lp hx ⟨g1, g2, g3, g4⟩ hL hst
   obtain ⟨y, hyl, rfl⟩ : ∃ y, us[j]? = some y ∧ ys = [.int .i64 y.value] := by
    simp only [List.getElem?_map, Option.map_eq_some_iff] at hx
    obtain ⟨a, h, rfl⟩ := hx; exact ⟨a, h, rfl⟩
   have hjl : j < us.length := (List.getElem?_eq_some_iff.1 hyl).1
   have hsum : ((us.take (j + 1)).map Us.value).sum = ((us.take j).map Us.value).sum + y.value := by rw [List.take_add_one, hyl]; simp
   obtain ⟨q1, q2⟩ := sum_bound (us.take j) fun z hz => hfr z (List.mem_of_mem_take hz)
   have q3 : (us.take j).length ≤ 4096 := by rw [List.length_take]; omega
   have hyr := of_decide_eq_true (hfr y (List.mem_of_getElem? hyl))
   rw [hsum]
   generalize ((us.take j).map Us.value).sum = sm at g2 q1 q2 ⊢
   simp only [parEnv]
   refine g ?_
   refine RunE.beginR hL hst (by omega) fun u3 t3 hL3 => ?_
   replace g1 := g1.ext t3 (by omega)
   replace g2 := g2.ext t3 (by omega)
   have s3 := t3.size
   have hj1 : ((j : Int) + 1 : Int) = ((j + 1 : Nat) : Int) := by omega
   refine g ?_
   refine RunL.store Tryz.tOk rfl rfl rfl rfl rfl g1 rfl rfl fun u4 t4 => ?_
   have g1' : Blk u4 B18 [.int .i64 (1 + (j : Int) + 1)] 3 := t4.at_
   replace g2 := g2.ext t4.ext (by omega)
   have hL4 := hL3.ext t4.ext (by omega) (by omega)
   refine g ?_
   refine RunL.store Tryz.tOk rfl rfl rfl rfl rfl g2 rfl rfl fun u5 t5 => ?_
   have g2' : Blk u5 B19 [.int .i64 (v + sm + y.value)] 3 := t5.at_
   replace g1' := g1'.ext t5.ext (by omega)
   have hL5 := hL4.ext t5.ext (by omega) (by omega)
   refine g ?_
   refine RunE.endR ⟨by rw [show (1 + ((j + 1 : Nat) : Int)) = 1 + (j : Int) + 1 by omega]; exact g1', by rw [← Int.add_assoc]; exact g2', by have := t4.ext.size; have := t5.ext.size; omega, ?_⟩ hL5
   exact ((g4.write t3 (by intro k hk hlt; omega)).trans (t4.ext.mono fun k _ h => .inl h)).trans (t5.ext.mono fun k _ h => .inr h)
  ·rintro w12 ⟨g1, g2, g3, g4⟩ hD12
   rw [List.length_map] at g1
   rw [List.length_map, List.take_length] at g2
   rw [List.length_map] at hfit
   obtain ⟨q1, q2⟩ := sum_bound us hfr
   generalize (us.map Us.value).sum = sm at g2 hfit q1 q2
   have Z17' := Z17.ext g4 (by rintro (h | h) <;> omega)
   have hNn : (w11.heap.size :: Ds).Nodup := List.nodup_cons.2 ⟨fun h => by have := (hB _ h).2; have := X10.size; omega, hN⟩
   have hDn : ∀ D ∈ w11.heap.size :: Ds, w12.heap[D]? = some (.deferred (some [])) := fun D h => by
    rcases List.mem_cons.1 h with rfl | h
    ·exact hD12
    ·exact obj_ext (hDe D h) g4 (by have := (hB D h).2; have := X10.size; rintro (h | h) <;> omega)
   have Xa : Ext w5 w12 := (X10.trans E11).write g4 (by rintro k (h | h) hlt <;> omega)
   have hs12 := g4.size
   have fin : ∀ w', ExtB (· ∈ w11.heap.size :: Ds) w12 w' → Ext w w' := fun w' e => ((X4.trans X5).trans Xa).write e fun k hk hlt => by
    rcases List.mem_cons.1 hk with rfl | hk
    ·omega
    ·have := (hB k hk).1; have := X4.size; omega
   by_cases c1 : 1 + (us.length : Int) ≤ x.count
   ·by_cases c2 : v + sm ≤ x.value
    ·rw [hfit, decide_eq_true ⟨c1, c2⟩, Bool.true_and] at h1
     refine g ?_
     refine RunE.weaken sb_ (again (i + 1, w11.heap.size :: Ds) w12 (by simp only; omega) ⟨by simp only; omega, h1, X5.trans Xa, hDn, hNn, fun D h => ?_⟩)
     rcases List.mem_cons.1 h with rfl | h
     ·exact ⟨by omega, by omega⟩
     ·have := hB D h; have := Xa.size; exact ⟨by omega, by omega⟩
    ·rw [hfit, decide_eq_false (fun h => c2 h.2), Bool.false_and] at h1
     refine g ?_
     refine RunE.retFnM (w11.heap.size :: Ds) hf_ hDn hNn fun w' e => ⟨_, .tmp rfl (.tmp rfl (.tmp rfl .nil)), ⟨_, by rw [h1]; rfl⟩, fin w' e⟩
   ·rw [hfit, decide_eq_false (fun h => c1 h.1), Bool.false_and] at h1
    refine g ?_
    refine RunE.retFnM (w11.heap.size :: Ds) hf_ hDn hNn fun w' e => ⟨_, .tmp rfl (.tmp rfl (.tmp rfl .nil)), ⟨_, by rw [h1]; rfl⟩, fin w' e⟩
 ·obtain rfl : i = st.length := by omega
  rw [List.drop_length] at h1
  refine g ?_
  refine RunE.retFnM Ds hf_ hD hN fun w' e => ⟨_, .tmp rfl (.tmp rfl (.tmp rfl .nil)), ⟨_, by rw [h1]; rfl⟩, (X4.trans X5).write e fun k hk hlt => by have := (hB k hk).1; have := X4.size; omega⟩
end Go.Sg
end
