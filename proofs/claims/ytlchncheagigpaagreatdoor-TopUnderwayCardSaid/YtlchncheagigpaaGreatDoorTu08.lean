/- Parts of this project: Int0, Int1, Int2, Int3, Int4. -/
import Derived.Test.YtlchncheagigpaaGreatDoorTu02
import Derived.Test.YtlchncheagigpaaGreatDoorTu04
import Derived.Test.YtlchncheagigpaaGreatDoorTu03
set_option maxHeartbeats 32000000
set_option linter.unusedSimpArgs false
set_option linter.unusedVariables false
set_option linter.unusedSectionVars false
section
set_option maxRecDepth 4000
namespace Go.Itr
open Go.Best Go.Rn
structure It where
 no : Int
 at_ : Int
 known : Int
 person : Int
 party : Int
 of_ : Bool
 gone : Bool
deriving DecidableEq, Inhabited
def zeroI : It := ⟨0, 0, 0, 0, 0, false, false⟩
def rightI (x : It) : Bool := decide (0 ≤ x.no ∧ x.no ≤ 1048576 ∧ 0 ≤ x.at_ ∧ x.at_ < 1099511627776 ∧ 0 ≤ x.known ∧ x.known < 1099511627776 ∧ 0 ≤ x.party ∧ x.party ≤ 1048576 ∧ 0 ≤ x.person ∧
 (x.of_ = true → x.person ≤ 1048576 ∧ x.person ≠ x.party) ∧ (x.of_ = false → x.person < 64))
abbrev chkI (l : List It) : Int := chk It.no rightI 4096 290 l
abbrev Si := Int × Int × Bool
def sjI (x : It) : Si := (x.person, x.party, x.of_)
def cntI (t kn : Int) (x : It) : Bool := decide (x.at_ ≤ t ∧ x.known ≤ kn)
def standsI (m : List (Si × It)) (x : It) : Bool := !x.gone && decide ((getM (sjI x) m).getD zeroI = x)
def standI (t kn : Int) (l : List It) : List It := l.filter (standsI (lastM sjI It.at_ (cntI t kn) l))
def incI (lim : Int) (last : Int) (l : List Int) : Bool := good (fun n : Int => n) (fun n => decide (n < lim)) last l
theorem incI_sorted {lim last : Int} {l : List Int} (h : incI lim last l = true) : l.Pairwise (· < ·) ∧ ∀ n ∈ l, last < n ∧ n < lim := by
 obtain ⟨h1, h2⟩ := good_srt h
 exact ⟨h1, fun n hn => ⟨(h2 n hn).1, of_decide_eq_true (h2 n hn).2⟩⟩
abbrev MtQ := List (Int × Bool)
abbrev Qe := Nat × Int
def hasM (m : MtQ) (t : Int) : Bool := (getM t m).getD false
def putI (s : MtQ × List Qe) (e : Qe) : MtQ × List Qe := if hasM s.1 e.2 then s else (setM e.2 true s.1, s.2 ++ [e])
def frmI (st : List It) (k : Int) : List It := st.filter fun x => x.of_ && decide (x.person = k)
def firstI (p : Int) (s : MtQ × List Qe) (x : It) : MtQ × List Qe := if !x.of_ && decide (x.person = p) then putI s (1, x.party) else s
def startI (st : List It) (p : Int) : MtQ × List Qe := st.foldl (firstI p) ([], [])
def stepsI (len : Nat) (s : MtQ × List Qe) (l : List It) : MtQ × List Qe := l.foldl (fun s x => putI s (len, x.party)) s
def bfsI (st : List It) (ps : List Int) : Nat → MtQ × List Qe → Bool
 | 0, _ => false
 | _ + 1, (_, []) => false
 | n + 1, (m, e :: q) => if e.2 ∈ ps then true else if e.1 = 8 then bfsI st ps n (m, q) else bfsI st ps n (stepsI (e.1 + 1) (m, q) (frmI st e.2))
def conflictB (t kn : Int) (l : List It) (p : Int) (ps : List Int) : Bool := bfsI (standI t kn l) ps l.length (startI (standI t kn l) p)
structure MOk (L : List Int) (s : MtQ × List Qe) : Prop where
 nodup : (s.1.map (·.1)).Nodup
 sub : ∀ k ∈ s.1.map (·.1), k ∈ L
 len : s.2.length ≤ s.1.length
 tru : ∀ k b, getM k s.1 = some b → b = true
 small : ∀ e ∈ s.2, 1 ≤ e.1 ∧ e.1 ≤ 8
theorem nodup_len : ∀ (ks L : List Int), ks.Nodup → (∀ k ∈ ks, k ∈ L) → ks.length ≤ L.length
 | [], _, _, _ => Nat.zero_le _
 | k :: ks, L, h, hs => by
  obtain ⟨h1, h2⟩ := List.nodup_cons.1 h
  have hk := hs k List.mem_cons_self
  have ih := nodup_len ks (L.erase k) h2 fun j hj => (List.mem_erase_of_ne (a := j) (b := k) (fun e => h1 (by rw [← e]; exact hj))).2 (hs j (List.mem_cons_of_mem _ hj))
  rw [List.length_erase_of_mem hk] at ih
  have := List.length_pos_of_mem hk
  simp only [List.length_cons]; omega
theorem hasM_none {L : List Int} {s : MtQ × List Qe} (h : MOk L s) {t : Int} (ht : hasM s.1 t = false) : getM t s.1 = none := by
 unfold hasM at ht
 cases hg : getM t s.1 with
 | none => rfl
 | some b => rw [hg, h.tru t b hg] at ht; simp at ht
theorem setM_new {m : MtQ} {t : Int} (h : getM t m = none) : ¬ t ∈ m.map (·.1) := fun hm => by
 have := (getM_isSome (m := m)).2 hm
 rw [h] at this; simp at this
theorem put_ok {L : List Int} {s : MtQ × List Qe} {e : Qe} (h : MOk L s) (he : e.2 ∈ L) (h8 : 1 ≤ e.1 ∧ e.1 ≤ 8) : MOk L (putI s e) ∧ (putI s e).2.length + s.1.length = s.2.length + (putI s e).1.length ∧ (hasM s.1 e.2 = false → s.1.length < L.length) := by
 unfold putI
 split
 ·rename_i hh
  exact ⟨h, rfl, fun hf => by rw [hf] at hh; simp at hh⟩
 ·rename_i hh
  have hg := hasM_none h (by simpa using hh)
  have hn := setM_new hg
  have hk : (setM e.2 true s.1).map (·.1) = s.1.map (·.1) ++ [e.2] := by rw [setM_keys, if_neg hn]
  have hl : (setM e.2 true s.1).length = s.1.length + 1 := by
   have := congrArg List.length hk
   simpa using this
  have hnd : (s.1.map (·.1) ++ [e.2]).Nodup := List.nodup_append.2 ⟨h.nodup, by simp, fun a ha b hb => by simp at hb; subst hb; exact fun e => hn (e ▸ ha)⟩
  have hsub : ∀ k ∈ s.1.map (·.1) ++ [e.2], k ∈ L := fun k hk => by
   rcases List.mem_append.1 hk with h1 | h1
   ·exact h.sub k h1
   ·simp at h1; subst h1; exact he
  refine ⟨⟨by rw [hk]; exact hnd, by rw [hk]; exact hsub, ?_, fun k b hb => ?_, fun x hx => ?_⟩, ?_, fun _ => ?_⟩
  ·simp only [List.length_append, List.length_singleton, hl]; have := h.len; omega
  ·simp only [getM_set] at hb
   split at hb
   ·simpa using hb.symm
   ·exact h.tru k b hb
  ·rcases List.mem_append.1 hx with h1 | h1
   ·exact h.small x h1
   ·simp at h1; subst h1; exact h8
  ·simp only [List.length_append, List.length_singleton, hl]; omega
  ·have := nodup_len _ L hnd hsub
   simp at this; omega
theorem start_ok {L : List Int} {p : Int} : ∀ (l : List It) {s : MtQ × List Qe}, (∀ x ∈ l, x.party ∈ L) → MOk L s → MOk L (l.foldl (firstI p) s)
 | [], _, _, h => h
 | x :: l, s, hl, h => by
  refine start_ok l (fun y hy => hl y (List.mem_cons_of_mem _ hy)) ?_
  unfold firstI
  split
  ·exact (put_ok h (hl x List.mem_cons_self) (by simp)).1
  ·exact h
theorem MOk.cap {L : List Int} {s : MtQ × List Qe} (h : MOk L s) : s.1.length ≤ L.length := by
 have := nodup_len _ L h.nodup h.sub
 rwa [List.length_map] at this
theorem MOk.tail {L : List Int} {m : MtQ} {e : Qe} {q : List Qe} (h : MOk L (m, e :: q)) : MOk L (m, q) := ⟨h.nodup, h.sub, by have := h.len; simp only [List.length_cons] at this ⊢; omega, h.tru, fun x hx => h.small x (List.mem_cons_of_mem _ hx)⟩
theorem bfs_nil (st : List It) (ps : List Int) (n : Nat) (m : MtQ) : bfsI st ps n (m, []) = false := by cases n <;> rfl
theorem steps_snoc (len : Nat) (s : MtQ × List Qe) (l : List It) (x : It) : stepsI len s (l ++ [x]) = putI (stepsI len s l) (len, x.party) := by unfold stepsI; rw [List.foldl_append]; rfl
theorem mok_nil (L : List Int) : MOk L ([], []) := ⟨List.nodup_nil, by simp, Nat.le_refl _, fun k b h => by simp [getM] at h, by simp⟩
end Go.Itr
end
section
set_option maxRecDepth 4000
namespace Go.Itr
open Go.Rn Go.Rec
@[reducible] def It.cells (x : It) : List Value := [.int .i64 x.no, .int .i64 x.at_, .int .i64 x.known, .int .i64 x.person, .int .i64 x.party, .bool x.of_, .bool x.gone]
theorem encIt : EncOk It.cells 7 := ⟨fun _ => rfl, fun _ => rfl, by decide⟩
abbrev itV (x : It) : Value := .agg x.cells.toArray
theorem chkI_len {l : List It} (h : chkI l = 0) : l.length ≤ 4096 := ((Go.Best.chk_ok (by decide)).1 h).1
end Go.Itr
namespace Go.Sg
open Go.Rn Go.Proofs Go.Itr Go.Rec Go.Best
attribute [local irreducible] Go.Rn.RetsX Go.Rn.RunLN Go.Rn.AsyN Go.Rn.RunL Go.Rn.RunE Go.Rn.Asy Go.Rn.OpV Go.Rn.OpE Go.Rn.ExecE
instance iInt1_1 (n lim : Int) : Pf 113 [.int .i64 n, .int .i64 lim] (.bool (decide (0 ≤ n ∧ n < lim))) := ⟨fun w => by
 refine en Tryz.func113 12 fun hf_ => ?_
 repeat' (first | refine gn (fun h_ => ?_) (fun h_ => ?_) | fail)
 all_goals
  refine rt ?_
  exact ⟨congrArg Value.bool clB, rfl⟩⟩
instance iInt1_2 (x : It) : Px 68 [.agg x.cells.toArray] (.bool (rightI x)) := ⟨fun w => by
 obtain ⟨no, at_, known, person, party, of_, gone⟩ := x
 unfold rightI
 refine en Tryz.func68 43 fun hf_ => ?_
 refine g1 (cs := [.int .i64 no, .int .i64 at_, .int .i64 known, .int .i64 person, .int .i64 party, .bool of_, .bool gone]) fun B w1 E1 G1 Z => ?_
 repeat' (first | refine gn (fun h_ => ?_) (fun h_ => ?_) | fail)
 all_goals
  refine rt ?_
  refine ⟨congrArg Value.bool ?_, xt⟩
  cases of_ <;> first | contradiction | exact clB⟩
theorem icheck_ok (l : List It) (v : Value) (w : World) (hv : IsL w It.cells 7 v l) : Rets Tryz.prog 32 [v] w fun r w' => r = .int .i64 (chkI l) ∧ Ext w w' := by
 refine en Tryz.func32 27 fun hf_ => ?_
 refine gs (fun h => ?_) (fun h => ?_)
 ·refine rt ?_
  exact ⟨by rw [oneOr]; unfold chkI Best.chk; rw [if_pos (by simp at h; omega)], xt⟩
 have hle : ¬ 4096 < l.length := by simp at h; omega
 clear h
 refine g ?_
 refine RunE.loop (ι := Nat × Int) (fun x => [(9, v), (10, .int .i64 (l.length : Int)), (3, .int .i64 x.2), (11, .int .i64 (x.1 : Int))])
  (fun x w' => x.1 ≤ l.length ∧ good It.no rightI x.2 (l.drop x.1) = good It.no rightI (-1) l ∧ Ext w w') (fun x => l.length - x.1) (0, -1) sb_ ⟨Nat.zero_le _, rfl, xt⟩ ?_
 rintro ⟨i, last⟩ w3 ⟨hi, hg, X⟩ again
 simp only at hi hg again ⊢
 have bad : good It.no rightI (-1) l = false → ∀ c : Int, Value.int .i64 290 = .int .i64 (chkI l) := fun h _ => by
  unfold chkI Best.chk; rw [if_neg hle, if_neg (by rw [h]; simp)]
 by_cases hlt : i < l.length
 ·obtain ⟨b, o, cap, rfl, hr, hc⟩ := isL_held hv hlt
  obtain ⟨x, hx⟩ : ∃ x, l[i]? = some x := ⟨_, List.getElem?_eq_getElem hlt⟩
  have hrx := flat_row encIt hr hx
  have hd : l.drop i = x :: l.drop (i + 1) := by
   obtain ⟨hi, e⟩ := List.getElem?_eq_some_iff.1 hx
   rw [List.drop_eq_getElem_cons hi, e]
  rw [hd] at hg
  simp only [good] at hg
  refine g1 (cs := x.cells) fun B w4 E4 G Z => ?_
  cases hrt : rightI x with
  | false =>
   rw [hrt, Bool.false_and, Bool.false_and] at hg
   refine rt ?_
   exact ⟨bad hg.symm 0, xt⟩
  | true =>
   rw [hrt, Bool.true_and] at hg
   by_cases hlast : last < x.no
   ·rw [decide_eq_true hlast, Bool.true_and] at hg
    refine g ?_
    refine RunE.weaken sb_ (again (i + 1, x.no) _ (by simp only; omega) ⟨by simp only; omega, hg, xt⟩)
   ·rw [decide_eq_false hlast, Bool.false_and] at hg
    refine rt ?_
    exact ⟨bad hg.symm 0, xt⟩
 ·obtain rfl : i = l.length := by omega
  rw [List.drop_length] at hg
  simp only [good] at hg
  refine rt ?_
  exact ⟨by rw [oneOr]; unfold chkI Best.chk; rw [if_neg hle, if_pos hg.symm], xt⟩
theorem iexamine_ok (l : List It) (v : Value) (p : Int) (ps : List Int) (pv : Value) (t kn : Int) (w : World) (hc : chkI l = 0) (hp : 0 ≤ p ∧ p < 64) (hps : incI 1048577 (-1) ps = true) (hpl : ps.length ≤ 16) (ht : 0 ≤ t ∧ t < 1099511627776 ∧ 0 ≤ kn ∧ kn < 1099511627776)
  (hv : IsL w It.cells 7 v l) (hpv : IsL w intC 1 pv ps) : Rets Tryz.prog 193 [v, .int .i64 p, pv, .int .i64 t, .int .i64 kn] w fun r w' => r = .int .i64 0 ∧ Ext w w' := by
 obtain ⟨d, cp, rfl⟩ := isSl_slice hpv
 refine en Tryz.func193 53 fun hf_ => ?_
 refine gc (icheck_ok l v w hv) ?_
 rintro _ w2 ⟨rfl, E2⟩
 rw [hc]
 refine g ?_
 refine rangeL hpv encI 20 21 22 (fun last : Int => [(1, .int .i64 p), (2, .slice d ps.length cp), (3, .int .i64 t), (4, .int .i64 kn), (12, .int .i64 last)])
  (fun i last w' => incI 1048577 last (ps.drop i) = true ∧ Ext w w') (-1) sb_ ⟨hps, E2⟩ ?_ ?_
 ·rintro i last x w3 hx ⟨hi, X⟩ b o cap hve hrx hlt again
  cases hve
  have hd : ps.drop i = x :: ps.drop (i + 1) := by
   obtain ⟨hi, e⟩ := List.getElem?_eq_some_iff.1 hx
   rw [List.drop_eq_getElem_cons hi, e]
  rw [hd] at hi
  unfold incI at hi
  simp only [good, Bool.and_eq_true, decide_eq_true_eq] at hi
  refine g ?_
  exact RunE.weaken sb_ (again x w3 ⟨hi.2, X⟩)
 ·rintro last w3 ⟨-, X⟩
  refine rt ?_
  exact ⟨rfl, xt⟩
end Go.Sg
end
section
set_option maxRecDepth 4000
namespace Go.Itr
open Go.Rn Go.Rec
def siC (s : Si) : List Value := [.int .i64 s.1, .int .i64 s.2.1, .bool s.2.2]
abbrev siV : Si → Value := encV' siC
abbrev stdV (b3 b7 : Nat) : Value := .func (.func 206) #[] #[.pointer (some ⟨b3, 0, none⟩), .pointer (some ⟨b7, 0, none⟩)]
end Go.Itr
namespace Go.Sg
open Go.Rn Go.Proofs Go.Itr Go.Rec Go.Best
attribute [local irreducible] Go.Rn.RetsX Go.Rn.RunLN Go.Rn.AsyN Go.Rn.RunL Go.Rn.RunE Go.Rn.Asy Go.Rn.OpV Go.Rn.OpE Go.Rn.ExecE
theorem itFlat : Flat Tryz.prog 137 [(3, .int .i64), (3, .int .i64), (3, .int .i64), (3, .int .i64), (3, .int .i64), (4, .bool), (4, .bool)] :=
 ⟨by kernel_rfl, by kernel_rfl, by kernel_rfl, by kernel_rfl, by kernel_rfl, fun x hx => by
  simp only [List.mem_cons, List.not_mem_nil, or_false] at hx
  rcases hx with rfl | rfl | rfl | rfl | rfl | rfl | rfl <;> first | exact ⟨Tryz.underlying4, by kernel_rfl, by kernel_rfl⟩ | exact ⟨Tryz.underlying3, by kernel_rfl, by kernel_rfl⟩⟩
theorem siFlat : Flat Tryz.prog 307 [(3, .int .i64), (3, .int .i64), (4, .bool)] :=
 ⟨by kernel_rfl, by kernel_rfl, by kernel_rfl, by kernel_rfl, by kernel_rfl, fun x hx => by
  simp only [List.mem_cons, List.not_mem_nil, or_false] at hx
  rcases hx with rfl | rfl | rfl <;> first | exact ⟨Tryz.underlying4, by kernel_rfl, by kernel_rfl⟩ | exact ⟨Tryz.underlying3, by kernel_rfl, by kernel_rfl⟩⟩
instance iInt2_1 (a b : It) : EqA 137 (itV a) (itV b) (decide (a = b)) := .of itFlat fitsC fitsC (by
 obtain ⟨⟩ := a; obtain ⟨⟩ := b
 rw [Bool.eq_iff_iff]; simp [eqAll, veq, and_assoc])
theorem siKey : KeyOk Tryz.prog 307 siV fun _ => True := keyOk_flat siFlat (fun _ => by unfold siC; exact fitsC) fun a b => by
 obtain ⟨a1, a2, a3⟩ := a; obtain ⟨b1, b2, b3⟩ := b
 rw [Bool.eq_iff_iff]; simp [eqAll, veq, siC]
instance iInt2_2 (a b : Int) (c : Bool) : KeyOf siV (.agg #[.int .i64 a, .int .i64 b, .bool c]) (a, b, c) := ⟨rfl⟩
instance iInt2_3 (x : It) : KeyOf siV (.agg (siC (sjI x)).toArray) (sjI x) := ⟨rfl⟩
instance iInt2_4 : MapA 305 siV itV zeroI := ⟨⟨_, _, Tryz.underlying305, siKey, by kernel_rfl⟩⟩
theorem istd_gives (l : List It) (v : Value) (R b3 b7 : Nat) (m : List (Si × It)) (w0 : World) (hl : l.length ≤ 100000) (hv : IsL w0 It.cells 7 v l) (hM : MapW w0 R siV itV m) (Y3 : Blk w0 b3 [v] 24) (Y7 : Blk w0 b7 [.map (some R)] 305) :
  Gives Tryz.prog (stdV b3 b7) ((l.filter (standsI m)).map fun x => [itV x]) w0 (fun k => k = b3 ∨ k = b7 ∨ k = R ∨ (l ≠ [] ∧ v.ownBlock = some k)) := by
 intro S J y w hS hJ0 hJX hJup hy
 refine RetsX.v (fi := []) (args := [y]) (ca := [.pointer (some ⟨b3, 0, none⟩), .pointer (some ⟨b7, 0, none⟩)]) ?_
 change RetsX Tryz.prog 206 [y, .pointer (some ⟨b3, 0, none⟩), .pointer (some ⟨b7, 0, none⟩)] _ _ _
 have at0 : ∀ i u, J i u → MapW u R siV itV m ∧ Blk u b3 [v] 24 ∧ Blk u b7 [.map (some R)] 305 := fun i u h => by
  have e := hJX i u h
  exact ⟨hM.ext e (hS _ (by simp)), Y3.ext e (hS _ (by simp)), Y7.ext e (hS _ (by simp))⟩
 refine en Tryz.func206 35 fun hf_ => ?_
 obtain ⟨-, U3, -⟩ := at0 0 w hJ0
 refine g ?_
 refine rangeL hv encIt 6 7 8 (fun _ : Unit => [(0, y), (1, .pointer (some ⟨b3, 0, none⟩)), (2, .pointer (some ⟨b7, 0, none⟩))])
  (fun i _ w' => J ((l.take i).filter (standsI m)).length w') () sb_ (by simpa using hJ0) ?_ ?_
 ·rintro i ⟨⟩ x w3 hx hJ b o cap rfl hrx hlt again
  obtain ⟨UM, -, U7⟩ := at0 _ w3 hJ
  replace hrx := hrx.ext (hJX _ _ hJ) (hS b (.inr (.inr (.inr ⟨List.ne_nil_of_length_pos (by omega), rfl⟩))))
  obtain ⟨f1, f2⟩ := filter_take (standsI m) hx
  have skip : standsI m x = false → ∀ w5, Ext w3 w5 → _ := fun h w5 E5 => again () w5 (by rw [f1, h]; simpa using hJup _ _ _ hJ E5)
  have give : standsI m x = true → ∀ w5, J (((l.take i).filter (standsI m)).length + 1) w5 → _ := fun h w5 H => again () w5 (by rw [f1, h]; simpa using H)
  replace hy := fun h w5 E => hy _ [itV x] w5 (by rw [List.getElem?_map, f2 h]; rfl) (hJup _ _ _ hJ E)
  have hst : standsI m x = (!x.gone && decide ((getM (sjI x) m).getD zeroI = x)) := rfl
  rw [hst] at skip give hy
  cases h1 : x.gone with
  | true =>
   refine g1 (cs := x.cells) fun B5 w4 E4 G4 Z5 => ?_
   refine gx fun w5 E5 => ?_
   exact RunE.weaken sb_ (skip (by rw [h1]; rfl) _ xt)
  | false =>
   cases h2 : decide ((getM (sjI x) m).getD zeroI = x) with
   | false =>
    refine g1 (cs := x.cells) fun B5 w4 E4 G4 Z5 => ?_
    refine gx fun w5 E5 => ?_
    exact RunE.weaken sb_ (skip (by rw [h1, h2]; rfl) _ xt)
   | true =>
    refine g1 (cs := x.cells) fun B5 w4 E4 G4 Z5 => ?_
    refine gx fun w5 E5 => ?_
    refine RunL.ex rfl rfl rfl (OpE.callV rfl rfl (hy (by rw [h1, h2]; rfl) w5 xt)) ?_
    rintro _ w6 ⟨rfl, hJ6⟩
    refine g ?_
    exact RunE.weaken sb_ (give (by rw [h1, h2]; rfl) w6 hJ6)
 ·intro s w3 hJ
  rw [List.take_length] at hJ
  refine g ?_
  refine RunE.fallFn hf_ .nil ?_
  rw [List.length_map]; exact hJ
theorem istanding_ok (t kn : Int) (l : List It) (v : Value) (w : World) (hl : l.length ≤ 100000) (hv : IsL w It.cells 7 v l) :
  Rets Tryz.prog 195 [v, .int .i64 t, .int .i64 kn] w fun r w' => (∃ F : Nat → Prop, Gives Tryz.prog r ((standI t kn l).map fun x => [itV x]) w' F ∧ ∀ k, F k → k < w'.heap.size ∧ (w.heap.size ≤ k ∨ (l ≠ [] ∧ v.ownBlock = some k))) ∧ Ext w w' := by
 obtain ⟨d, cp, rfl⟩ := isSl_slice hv
 refine en Tryz.func195 57 fun hf_ => ?_
 refine g1 (cs := [.slice d l.length cp]) fun B3 w3 E3 G3 Z3 => ?_
 refine g ?_
 refine RunL.ex rfl rfl rfl (mm siV itV) ?_
 rintro _ w4 ⟨R, rfl, gR, E4, M⟩
 refine g1 (cs := [.map (some R)]) fun B7 w6 E6 G6 Z7 => ?_
 refine g ?_
 have hR : w.heap.size ≤ R := by have := E3.size; omega
 have X6 : Ext w w6 := xt
 replace M := M.up E6
 have n3 := M.ne (Z3.up xt)
 have n7 := M.ne Z7
 refine rangeL hv encIt 14 15 16 (fun _ : Unit => [(1, .int .i64 t), (2, .int .i64 kn), (3, .pointer (some ⟨B3, 0, none⟩)), (7, .pointer (some ⟨B7, 0, none⟩))])
  (fun i _ w' => ExtB (· = R) w6 w' ∧ MapW w' R siV itV (lastM sjI It.at_ (cntI t kn) (l.take i))) () sb_ ⟨ExtB.refl _ _, M⟩ ?_ ?_
 ·rintro i ⟨⟩ x w7 hx ⟨X7, M⟩ b o cap hve hrx hlt again
  cases hve
  rw [lastM_snoc sjI It.at_ (cntI t kn) hx] at again
  generalize lastM sjI It.at_ (cntI t kn) (l.take i) = m at M again
  replace Z7 := Z7.ext X7 n7
  have X : Ext w w7 := X6.write X7 (by intro k hk hlt; omega)
  have skip : lastStep sjI It.at_ (cntI t kn) m x = m → ∀ w9, Ext w7 w9 → _ := fun h w9 E => again () w9 ⟨X7.trans (ExtB.of_ext E), by rw [h]; exact M.up E⟩
  have set : lastStep sjI It.at_ (cntI t kn) m x = setM (sjI x) x m → ∀ w9 w11, Ext w7 w9 → ExtB (· = R) w9 w11 → MapW w11 R siV itV (setM (sjI x) x m) → _ := fun h w9 w11 E e hM => again () w11 ⟨(X7.trans (ExtB.of_ext E)).trans e, by rw [h]; exact hM⟩
  unfold lastStep newer at skip set
  cases hc : cntI t kn x with
  | false =>
   have hc' := of_decide_eq_false hc
   refine g1 (cs := x.cells) fun B9 w9 E9 G9 Z9 => ?_
   by_cases h1 : x.at_ ≤ t
   all_goals
    refine g ?_
    exact RunE.weaken sb_ (skip (by rw [hc]; rfl) w9 E9)
  | true =>
   obtain ⟨c1, c2⟩ := of_decide_eq_true hc
   rw [hc] at skip set
   cases hg : getM (sjI x) m with
   | none =>
    refine g1 (cs := x.cells) fun B9 w9 E9 G9 Z9 => ?_
    refine g1 (cs := siC (sjI x)) fun B10 w10 E10 G10 Z10 => ?_
    refine g1 (cs := zeroI.cells) fun B11 w11 E11 G11 Z11 => ?_
    refine RunL.exN rfl rfl (ms rfl rfl rfl M xt inferInstance inferInstance (u := x) rfl) ?_
    rintro _ w12 ⟨M12, E12, -⟩
    refine g ?_
    exact RunE.weaken sb_ (set (by rw [hg]; rfl) w11 w12 xt E12 M12)
   | some y =>
    rw [hg] at skip set
    by_cases hle : y.at_ ≤ x.at_
    ·refine g1 (cs := x.cells) fun B9 w9 E9 G9 Z9 => ?_
     refine g1 (cs := siC (sjI x)) fun B10 w10 E10 G10 Z10 => ?_
     refine g1 (cs := y.cells) fun B11 w11 E11 G11 Z11 => ?_
     refine RunL.exN rfl rfl (ms rfl rfl rfl M xt inferInstance inferInstance (u := x) rfl) ?_
     rintro _ w12 ⟨M12, E12, -⟩
     refine g ?_
     exact RunE.weaken sb_ (set (by simp [hle]) w11 w12 xt E12 M12)
    ·refine g1 (cs := x.cells) fun B9 w9 E9 G9 Z9 => ?_
     refine g1 (cs := siC (sjI x)) fun B10 w10 E10 G10 Z10 => ?_
     refine g1 (cs := y.cells) fun B11 w11 E11 G11 Z11 => ?_
     exact RunE.weaken sb_ (skip (by simp [hle]) w11 xt)
 ·rintro ⟨⟩ w7 ⟨X7, M⟩
  rw [List.take_length] at M
  refine rt ?_
  have X : Ext w w7 := X6.write X7 (by intro k hk hlt; omega)
  refine ⟨⟨_, istd_gives l _ R B3 B7 _ w7 hl (hv.up X) M ((Z3.up xt).ext X7 n3) (Z7.ext X7 n7), fun k hk => ?_⟩, X⟩
  have h7 := X7.size
  have e2 := (Z3.up (xt : Ext w3 w6)).lt
  have e4 := Z7.lt
  have s6 := (E3.trans E4).size
  rcases hk with rfl | rfl | rfl | h
  ·exact ⟨by omega, .inl G3⟩
  ·exact ⟨by omega, .inl (by omega)⟩
  ·exact ⟨M.lt, .inl hR⟩
  ·exact ⟨Nat.lt_of_lt_of_le (isL_own hv (by decide) h.1 h.2) X.size, .inr h⟩
end Go.Sg
end
section
set_option maxRecDepth 4000
namespace Go.Sg
open Go.Rn Go.Proofs Go.Itr Go.Rec Go.Best
attribute [local irreducible] Go.Rn.RetsX Go.Rn.RunLN Go.Rn.AsyN Go.Rn.RunL Go.Rn.RunE Go.Rn.Asy Go.Rn.OpV Go.Rn.OpE Go.Rn.ExecE
abbrev kvN : Int → Value := Value.int .i64
instance iInt3_1 : MapA 155 kvN Value.bool false := ⟨⟨_, _, Tryz.underlying155, keyOk_int Tryz.underlying3, by kernel_rfl⟩⟩
instance iInt3_2 : MapA 290 kvN (fun v => v) nilV := ⟨⟨_, _, Tryz.underlying290, keyOk_int Tryz.underlying3, by kernel_rfl⟩⟩
abbrev wayV (u : Value) (t : Int) : Value := .agg #[u, .int .i64 t]
abbrev putV (b15 b16 : Nat) : Value := .func (.func 194) #[] #[.pointer (some ⟨b15, 0, none⟩), .pointer (some ⟨b16, 0, none⟩)]
theorem iput_ok (met : MtQ) (buf : List Value) (d : Option Addr) (n c : Nat) (t : Int) (cap RM C b15 b16 : Nat) (w : World) (Y15 : Blk w b15 [.map (some RM)] 155) (Y16 : Blk w b16 [.chan (some C)] 291) (hM : MapW w RM kvN Value.bool met) (hC : ChanAt w C cap buf) (hroom : hasM met t = false → buf.length < cap) :
  Rets Tryz.prog 194 [wayV (.slice d n c) t, .pointer (some ⟨b15, 0, none⟩), .pointer (some ⟨b16, 0, none⟩)] w fun _ w' =>
   MapW w' RM kvN Value.bool (if hasM met t then met else setM t true met) ∧ ChanAt w' C cap (if hasM met t then buf else buf ++ [wayV (.slice d n c) t]) ∧ ExtB (fun k => k = RM ∨ k = C) w w' := by
 have hne : RM ≠ C := fun e => by
  obtain ⟨es, cl, h1, -⟩ := hM
  obtain ⟨s, r, h2⟩ := hC
  rw [e, h2] at h1; simp at h1
 refine en Tryz.func194 14 fun hf_ => ?_
 cases hh : hasM met t with
 | true =>
  have hh' : (getM t met).getD false = true := hh
  refine g1 (cs := [.slice d n c, .int .i64 t]) fun B3 w1 E1 G1 Z1 => ?_
  refine g ?_
  refine RunE.fallFn hf_ .nil ?_
  exact ⟨by simpa [hh] using hM.up E1, by simpa [hh] using hC.up E1, ExtB.of_ext E1⟩
 | false =>
  have hh' : (getM t met).getD false = false := hh
  refine g1 (cs := [.slice d n c, .int .i64 t]) fun B3 w1 E1 G1 Z1 => ?_
  refine g ?_
  have nM := (hM.up E1).ne Z1
  have n15 := hM.ne Y15
  have n16 := hM.ne Y16
  refine RunL.exN rfl rfl (ms rfl rfl rfl hM xt inferInstance inferInstance (u := true) rfl) ?_
  rintro _ w2 ⟨M2, E2, -⟩
  have C2 := (hC.up E1).ext E2 (fun e => hne e.symm)
  have Z2 := Z1.ext E2 nM
  have U16 := (Y16.up E1).ext E2 n16
  refine g ?_
  refine RunL.send rfl rfl rfl C2 (ExtB.refl _ _) (hroom hh) fun w3 C3 E3 _ => ?_
  refine g ?_
  refine RunE.fallFn hf_ .nil ?_
  exact ⟨by simpa [hh] using M2.ext E3 hne, by simpa [hh] using C3, ((ExtB.of_ext E1).trans (E2.mono fun k _ h => .inl h)).trans (E3.mono fun k _ h => .inr h)⟩
end Go.Sg
end
section
set_option maxRecDepth 4000
namespace Go.Itr
open Go.Rn Go.Rec
def QOk (w : World) (base : Nat) : List Qe → List Value → Prop
 | [], [] => True
 | e :: q, v :: buf => (∃ b c xs, v = Go.Sg.wayV (.slice (some ⟨b, 0, none⟩) e.1 (e.1 + c)) e.2 ∧ w.ownsRow base 3 1 (.slice (some ⟨b, 0, none⟩) e.1 (e.1 + c)) e.1 xs) ∧ QOk w base q buf
 | _, _ => False
theorem QOk.len {w : World} {base : Nat} : ∀ {q : List Qe} {buf : List Value}, QOk w base q buf → q.length = buf.length
 | [], [], _ => rfl
 | _ :: q, _ :: buf, h => by simp [h.2.len]
 | [], _ :: _, h => h.elim
 | _ :: _, [], h => h.elim
theorem QOk.ext {S : Nat → Prop} {w w' : World} {base : Nat} (e : ExtB S w w') (hS : ∀ k cs, base ≤ k → w.heap[k]? = some (.cells cs 3 (0, 0)) → ¬ S k) : ∀ {q : List Qe} {buf : List Value}, QOk w base q buf → QOk w' base q buf
 | [], [], _ => trivial
 | _ :: q, _ :: buf, ⟨⟨b, c, xs, h1, h2⟩, h3⟩ => ⟨⟨b, c, xs, h1, ownsRow_ext h2 e fun k hk => by
   rcases h2.2 with ⟨h0, -⟩ | ⟨g, c', cur, h0, hb, hg, -⟩
   ·simp at h0
   ·have : k = g := by rw [h0] at hk; simpa [Value.ownBlock] using hk.symm
    subst this
    exact hS k cur hb hg⟩, h3.ext e hS⟩
 | [], _ :: _, h => h.elim
 | _ :: _, [], h => h.elim
theorem QOk.up {w w' : World} {base : Nat} {q : List Qe} {buf : List Value} (h : QOk w base q buf) (e : Ext w w') : QOk w' base q buf := h.ext e fun _ _ _ _ h => h
theorem QOk.snoc {w : World} {base : Nat} {e : Qe} {v : Value} (hv : ∃ b c xs, v = Go.Sg.wayV (.slice (some ⟨b, 0, none⟩) e.1 (e.1 + c)) e.2 ∧ w.ownsRow base 3 1 (.slice (some ⟨b, 0, none⟩) e.1 (e.1 + c)) e.1 xs) : ∀ {q : List Qe} {buf : List Value}, QOk w base q buf → QOk w base (q ++ [e]) (buf ++ [v])
 | [], [], _ => ⟨hv, trivial⟩
 | _ :: q, _ :: buf, ⟨h1, h3⟩ => ⟨h1, QOk.snoc hv h3⟩
 | [], _ :: _, h => h.elim
 | _ :: _, [], h => h.elim
theorem ne_chan {w : World} {C k cap : Nat} {buf : List Value} {cs : Array Value} {t : TypeId} {f : Nat × Nat} (h : ChanAt w C cap buf) (hk : w.heap[k]? = some (.cells cs t f)) : k ≠ C := fun e => by
 subst e; obtain ⟨s, r, h1⟩ := h; rw [hk] at h1; simp at h1
theorem frm_snoc (pre : List It) (x : It) (k : Int) : frmI (pre ++ [x]) k = frmI pre k ++ if x.of_ && decide (x.person = k) then [x] else [] := by
 unfold frmI
 rw [List.filter_append, List.filter_cons, List.filter_nil]
theorem start_snoc (pre : List It) (x : It) (p : Int) : startI (pre ++ [x]) p = firstI p (startI pre p) x := by
 unfold startI; rw [List.foldl_append]; rfl
end Go.Itr
namespace Go.Sg
open Go.Rn Go.Proofs Go.Itr Go.Rec Go.Best
attribute [local irreducible] Go.Rn.RetsX Go.Rn.RunLN Go.Rn.AsyN Go.Rn.RunL Go.Rn.RunE Go.Rn.Asy Go.Rn.OpV Go.Rn.OpE Go.Rn.ExecE
structure CMem (w0 w : World) (base RF RM C cap : Nat) (pre : List It) (s : MtQ × List Qe) : Prop where
 frm : ∃ mf, MapW w RF kvN (fun v => v) mf ∧ GrpOk It.cells 7 137 w base mf (frmI pre)
 met : MapW w RM kvN Value.bool s.1
 que : ∃ buf, ChanAt w C cap buf ∧ QOk w base s.2 buf
 size : base ≤ w.heap.size
 ext : ExtB (fun k => k = RF ∨ k = RM ∨ k = C) w0 w
theorem CMem.up {w0 w w' : World} {base RF RM C cap : Nat} {pre : List It} {s : MtQ × List Qe} (h : CMem w0 w base RF RM C cap pre s) {S : Nat → Prop} (e : ExtB S w w') (hS : ∀ k, S k → k < base ∧ k ≠ RF ∧ k ≠ RM ∧ k ≠ C ∧ w0.heap.size ≤ k) : CMem w0 w' base RF RM C cap pre s := by
 obtain ⟨⟨mf, h1, h2⟩, h3, ⟨buf, h4, h5⟩, h6, h7⟩ := h
 refine ⟨⟨mf, h1.ext e fun h => (hS _ h).2.1 rfl, h2.ext e fun k cs hb _ h => by have := (hS _ h).1; omega⟩, h3.ext e fun h => (hS _ h).2.2.1 rfl, ⟨buf, h4.ext e fun h => (hS _ h).2.2.2.1 rfl, h5.ext e fun k cs hb _ h => by have := (hS _ h).1; omega⟩, by have := e.size; omega, ?_⟩
 exact h7.write e fun i hi hlt => by have := (hS i hi).2.2.2.2; omega
theorem iconflict_ok (l : List It) (v : Value) (p : Int) (ps : List Int) (pv : Value) (t kn : Int) (w : World) (hc : chkI l = 0) (hp : 0 ≤ p ∧ p < 64) (hps : incI 1048577 (-1) ps = true) (hpl : ps.length ≤ 16) (ht : 0 ≤ t ∧ t < 1099511627776 ∧ 0 ≤ kn ∧ kn < 1099511627776)
  (hv : IsL w It.cells 7 v l) (hpv : IsL w intC 1 pv ps) : Rets Tryz.prog 162 [v, .int .i64 p, pv, .int .i64 t, .int .i64 kn] w fun r w' => (∃ u, r = .tuple #[u, .bool (conflictB t kn l p ps), .int .i64 0]) ∧ Ext w w' := by
 obtain ⟨d, cp, rfl⟩ := isSl_slice hv
 obtain ⟨d2, cp2, rfl⟩ := isSl_slice hpv
 have hl := chkI_len hc
 refine en Tryz.func162 111 fun hf_ => ?_
 refine g1 (cs := [.int .i64 p]) fun B6 w1 E1 G1 Z6 => ?_
 refine gc (iexamine_ok l _ p ps _ t kn w1 hc hp hps hpl ht (hv.up E1) (hpv.up E1)) ?_
 rintro _ w2 ⟨rfl, E2⟩
 refine g ?_
 refine RunL.ex rfl rfl rfl (mm kvN (fun v => v)) ?_
 rintro _ w3 ⟨RF, rfl, gF, E3, MF⟩
 refine g1 (cs := [.map (some RF)]) fun B14 w4 E4 G4 Z14 => ?_
 refine g ?_
 refine RunL.ex rfl rfl rfl (mm kvN Value.bool) ?_
 rintro _ w5 ⟨RM, rfl, gM, E5, MM⟩
 refine g1 (cs := [.map (some RM)]) fun B15 w6 E6 G6 Z15 => ?_
 obtain ⟨j, hj, -, hjb⟩ := TI.info (Tryz.tOk.get 293 _ rfl)
 refine g ?_
 refine RunL.ex rfl rfl rfl (OpE.makeChan Tryz.underlying291 hj rfl (by omega) (by rw [hjb]; decide)) ?_
 rintro _ w7 ⟨C, rfl, gC, E7, CC⟩
 refine g1 (cs := [.chan (some C)]) fun B16 w8 E8 G8 Z16 => ?_
 refine g1 (cs := [putV B15 B16]) fun B17 w9 E9 G9 Z17 => ?_
 refine gc (istanding_ok t kn l _ w9 (by omega) (hv.up xt)) ?_
 rintro fv w10 ⟨⟨F, hG, hF⟩, E10⟩
 have R6 : B6 < w1.heap.size := Z6.lt
 have s01 := E1.size
 have s12 := E2.size
 have s23 := E3.size
 have s34 := E4.size
 have s45 := E5.size
 have s56 := E6.size
 have s67 := E7.size
 have s78 := E8.size
 have s89 := E9.size
 have s90 := E10.size
 have lF := MF.lt
 have lM := MM.lt
 have lC := CC.lt
 have l14 := Z14.lt
 have l15 := Z15.lt
 have l16 := Z16.lt
 have l17 := Z17.lt
 have X10 : Ext w w10 := xt
 have Z6' : Blk w10 B6 [.int .i64 p] 3 := Z6.up xt
 have Z14' : Blk w10 B14 [.map (some RF)] 290 := Z14.up xt
 have Z15' : Blk w10 B15 [.map (some RM)] 155 := Z15.up xt
 have Z16' : Blk w10 B16 [.chan (some C)] 291 := Z16.up xt
 have Z17' : Blk w10 B17 [putV B15 B16] 294 := Z17.up xt
 have MF' : MapW w10 RF kvN (fun v => v) ([] : List (Int × Value)) := MF.up xt
 have MM' : MapW w10 RM kvN Value.bool [] := MM.up xt
 have CC' : ChanAt w10 C l.length [] := CC.up xt
 have hvo : ∀ k, (Value.slice d l.length cp).ownBlock = some k → l ≠ [] → k < w.heap.size := fun k h1 h2 => isL_own hv (by decide) h2 h1
 have hsub : ∀ x ∈ standI t kn l, x.party ∈ l.map It.party := fun x hx => List.mem_map.2 ⟨x, (List.mem_filter.1 hx).1, rfl⟩
 unfold conflictB
 have hlen : (standI t kn l).length ≤ l.length := List.length_filter_le _ _
 generalize standI t kn l = st at hG hsub hlen ⊢
 clear Z6 Z14 Z15 Z16 Z17 MF MM CC
 refine g ?_
 clear E1 E2 E3 E4 E5 E6 E7 E8 E9 E10
 refine RunE.rangeGives (w0 := w10) (F := F) rfl ⟨_, hf_⟩ rfl hG (fun k => k = RF ∨ k = RM ∨ k = C) (fun k hk => ?_) (ExtB.refl _ _) (fun ys hx => ?_) rfl
  (fun i w' => CMem w10 w' (w10.heap.size + 2) RF RM C l.length (st.take i) (startI (st.take i) p)) ?_ ?_ ?_ ?_ ?_
 ·obtain ⟨h1, h2⟩ := hF k hk
  refine ⟨fun h => ?_, h1⟩
  rcases h2 with h2 | h2
  ·rcases h with rfl | rfl | rfl <;> omega
  ·have := hvo k h2.2 h2.1
   have := X10.size
   have := (G1 : w.heap.size ≤ B6)
   rcases h with rfl | rfl | rfl <;> omega
 ·simp only [List.mem_map] at hx
  obtain ⟨a, -, rfl⟩ := hx; rfl
 ·intro w2 e hsz
  exact ⟨⟨[], MF'.up e, GrpOk.nil _ _ fun _ => rfl⟩, MM'.up e, ⟨[], CC'.up e, trivial⟩, by omega, ExtB.of_ext e⟩
 ·rintro i u h; exact h.ext
 ·rintro i u u' h e
  exact h.up e fun k hk => by rcases hk with rfl | rfl <;> exact ⟨by omega, by omega, by omega, by omega, by omega⟩
 ·rintro i ys u lp hx hJ hL hs
  obtain ⟨x, hxl, rfl⟩ : ∃ x, st[i]? = some x ∧ ys = [itV x] := by
   simp only [List.getElem?_map, Option.map_eq_some_iff] at hx
   obtain ⟨a, h, rfl⟩ := hx; exact ⟨a, h, rfl⟩
  have htk : st.take (i + 1) = st.take i ++ [x] := by rw [List.take_add_one, hxl]; rfl
  have hmok : MOk (l.map It.party) (startI (st.take i) p) := start_ok _ (fun y hy => hsub y (List.mem_of_mem_take hy)) (mok_nil _)
  have hxs : x.party ∈ l.map It.party := hsub x (List.mem_of_getElem? hxl)
  have hpre : (st.take i).length ≤ 4096 := by rw [List.length_take]; omega
  rw [htk]
  generalize st.take i = pre at hJ hmok hpre ⊢
  have hLl := lt_of_get hL.l
  simp only [parEnv]
  refine g1 (cs := x.cells) fun B18 u2 XA G18 Z18 => ?_
  refine RunE.beginR (hL.up XA) hs (by omega) fun u3 t3 hL3 => ?_
  obtain ⟨⟨mf, m1, m2⟩, m3, ⟨buf, m4, m5⟩, m6, m7⟩ := hJ
  have hb : ∀ k, ((getM x.person mf).getD nilV).ownBlock = some k → w10.heap.size + 2 ≤ k ∧ k < B18 := fun k hk => by
   have h1 := (m2.blk x.person hk).1
   have h2 := (m2.blk x.person hk).2.1
   omega
  have Z := Z18.ext t3 (by omega)
  replace m1 := (m1.up XA).ext t3 (by omega)
  replace m2 := (m2.up XA).ext t3 (fun k cs hb _ h => by omega)
  replace m3 := (m3.up XA).ext t3 (by omega)
  replace m4 := (m4.up XA).ext t3 (by omega)
  replace m5 := (m5.up XA).ext t3 (fun k cs hb _ h => by omega)
  replace m6 : w10.heap.size + 2 ≤ u3.heap.size := by have := XA.size; have := t3.size; omega
  replace m7 : ExtB (fun k => k = RF ∨ k = RM ∨ k = C) w10 u3 := (m7.trans (ExtB.of_ext XA)).write t3 (by intro k hk hlt; omega)
  have U6 := Z6'.ext m7 (by rintro (h | h | h) <;> omega)
  have U14 := Z14'.ext m7 (by rintro (h | h | h) <;> omega)
  have U15 := Z15'.ext m7 (by rintro (h | h | h) <;> omega)
  have U16 := Z16'.ext m7 (by rintro (h | h | h) <;> omega)
  have U17 := Z17'.ext m7 (by rintro (h | h | h) <;> omega)
  have hB18 := Z.lt
  clear Z18 hL XA t3
  cases hof : x.of_ with
  | true =>
   have hst : startI (pre ++ [x]) p = startI pre p := by rw [start_snoc]; simp [firstI, hof]
   rw [hst]
   obtain ⟨vk, hvk⟩ : ∃ vk, vk = (getM x.person mf).getD nilV := ⟨_, rfl⟩
   have hO := m2.own x.person
   rw [← hvk] at hO hb
   refine g ?_
   refine RunE.draw (fun k => vk.ownBlock = some k) mix' ?_
   intro wd Xd
   have L14 : ∀ w', ExtB (fun k => vk.ownBlock = some k) wd w' → Blk w' B14 [.map (some RF)] 290 := fun w' e => (U14.up Xd).ext e fun h => by have := hb _ h; omega
   have L18 : ∀ w', ExtB (fun k => vk.ownBlock = some k) wd w' → Blk w' B18 x.cells 137 := fun w' e => (Z.up Xd).ext e fun h => by have := hb _ h; omega
   have LF : ∀ w', ExtB (fun k => vk.ownBlock = some k) wd w' → MapW w' RF kvN (fun v => v) mf := fun w' e => (m1.up Xd).ext e fun h => by have := hb _ h; omega
   refine ga ?_
   rw [← hvk]
   refine Asy.pre0 (fun a w' => ∃ B, a = .slice (some ⟨B, 0, none⟩) 1 1 ∧ Blk w' B x.cells 137) rfl rfl rfl rfl (fun a w' w'' _ e h => ?_) (fun w' _ => ?_) ?_
   ·obtain ⟨B, h1, h2⟩ := h; exact ⟨B, h1, h2.up e⟩
   ·refine OpE.mono (OpE.buildSl Tryz.tOk [itV x] rfl rfl rfl rfl rfl rfl (by simp [Value.cells])) ?_ fun _ _ h => h
    rintro _ w'' ⟨B, rfl, a⟩; exact ⟨a.ext, B, rfl, a.at_⟩
   refine Asy.wriP 0 (fun a w' => w'.ownsRow (w10.heap.size + 2) 137 7 a ((frmI pre x.person).length + 1) (flat It.cells (frmI pre x.person) ++ x.cells) ∧ ∀ k, a.ownBlock = some k → k < wd.heap.size → vk.ownBlock = some k) rfl rfl rfl rfl rfl rfl (fun a w' w'' _ e h => ⟨ownsRow_ext h.1 e (fun _ _ h => h), h.2⟩) (fun w' y e hy => ?_) ?_
   ·obtain ⟨B, rfl, hB⟩ := hy
    have hx1 : IsSl w' 7 (.slice (some ⟨B, 0, none⟩) 1 1) 1 x.cells := isSl_blk (n := 1) (cap := 1) (sz := 7) hB (fun i v h => by rw [Nat.zero_add]; exact h) rfl (Nat.le_refl 1)
    have hfl : (frmI pre x.person).length ≤ pre.length := List.length_filter_le _ _
    have hsz := (Xd.trans e).size
    refine OpE.mono (OpE.append' Tryz.tOk rfl rfl rfl rfl rfl rfl (ownsRow_ext hO (Xd.trans e) (fun _ _ h => h)) hx1 rfl (by show _ * 48 ≤ _; omega) (by omega) (by omega)) ?_ fun _ _ h => h
    rintro r' w'' ⟨h1, h2, h3⟩
    exact ⟨h2, h1, fun k hk hlt => h3 k hk (by have := e.size; omega)⟩
   refine Asy.tailW (by decide +kernel) fun we r Xe hr => ?_
   simp only [satsAll]
   refine RunL.exN rfl rfl (ms rfl rfl rfl (LF we Xe) xt inferInstance inferInstance (u := r) rfl) ?_
   rintro _ w9 ⟨M9, E9, -⟩
   refine g ?_
   have hF3 : ExtB (fun k => ((getM x.person mf).getD nilV).ownBlock = some k) u3 we := hvk ▸ ((ExtB.of_ext Xd).trans Xe)
   have g1 : GrpOk It.cells 7 137 we (w10.heap.size + 2) (setM x.person r mf) (frmI (pre ++ [x])) := m2.snoc hF3 hr.1 (fun k hk hlt => by rw [← hvk]; exact hr.2 k hk (by have := Xd.size; omega)) (by rw [frm_snoc]; simp [hof]) (fun k hk => by rw [frm_snoc]; simp [Ne.symm hk])
   have hRF : ∀ k cs, w10.heap.size + 2 ≤ k → we.heap[k]? = some (.cells cs 137 (0, 0)) → ¬ k = RF := fun k _ h _ e => by omega
   have hXe : ExtB (fun k => w10.heap.size + 2 ≤ k) u3 we := (ExtB.of_ext Xd).trans (Xe.mono fun k _ hk => (hb k hk).1)
   refine RunE.endR ⟨⟨_, M9, g1.ext E9 hRF⟩, (m3.ext hXe (by omega)).ext E9 (by omega), ⟨buf, (m4.ext hXe (by omega)).ext E9 (by omega), ?_⟩, ?_, ?_⟩ ((hL3.ext hXe (by omega) (by omega)).ext E9 (by omega) (by omega))
   ·refine (m5.ext hF3 fun k cs hb' hk h => ?_).ext E9 (fun k cs hb' _ h => by omega)
    obtain ⟨cs', h'⟩ := (m2.blk x.person h).2.2
    rw [h'] at hk
    simp at hk
   ·have := hXe.size; have := E9.size; omega
   ·exact (m7.write hXe (by intro k hk hlt; omega)).trans (E9.mono fun k _ h => .inl h)
  | false =>
   have hfr : ∀ k, frmI (pre ++ [x]) k = frmI pre k := fun k => by rw [frm_snoc]; simp [hof]
   have hfr' : frmI (pre ++ [x]) = frmI pre := funext hfr
   by_cases hxp : x.person = p
   ·have hst : startI (pre ++ [x]) p = putI (startI pre p) (1, x.party) := by rw [start_snoc]; simp [firstI, hof, hxp]
    rw [hst]
    refine g ?_
    refine RunL.ex rfl rfl rfl (OpE.buildSl Tryz.tOk [.int .i64 x.no] rfl rfl rfl rfl rfl rfl (by simp [Value.cells])) ?_
    rintro _ w5 ⟨B, rfl, a⟩
    have E5 := a.ext
    refine g ?_
    obtain ⟨-, -, hput⟩ := put_ok (e := (1, x.party)) hmok hxs ⟨by simp, by simp⟩
    have hql := m5.len
    have hml := hmok.len
    refine RunL.ex rfl rfl rfl (OpE.callV rfl rfl (RetsX.v (fi := []) (args := [wayV (.slice (some ⟨B, 0, none⟩) 1 1) x.party]) (ca := [.pointer (some ⟨B15, 0, none⟩), .pointer (some ⟨B16, 0, none⟩)]) (iput_ok (startI pre p).1 buf (some ⟨B, 0, none⟩) 1 1 x.party l.length RM C B15 B16 w5 (U15.up E5) (U16.up E5) (m3.up E5) (m4.up E5) (fun h => by have := hput h; rw [List.length_map] at this; omega)))) ?_
    rintro _ w9 ⟨M9, C9, E9⟩
    refine g ?_
    have hO : w5.ownsRow (w10.heap.size + 2) 3 1 (.slice (some ⟨B, 0, none⟩) 1 1) 1 [.int .i64 x.no] := ⟨rfl, .inr ⟨B, 1, _, rfl, by have := a.eq; omega, a.at_, Nat.le_refl _, by decide, rfl, rfl⟩⟩
    have e5 := E5.size
    have e9 := E9.size
    refine RunE.endR ⟨⟨mf, (m1.up E5).ext E9 (by rintro (h | h) <;> omega), hfr' ▸ (m2.up E5).ext E9 (fun k cs hb' _ h => by rcases h with h | h <;> omega)⟩, ?_, ?_, by omega, ?_⟩ ((hL3.up E5).ext E9 (by rintro (h | h) <;> omega) (by rintro (h | h) <;> omega))
    ·unfold putI; rw [apply_ite Prod.fst]; exact M9
    ·refine ⟨_, C9, ?_⟩
     have hq5 := (m5.up E5).ext E9 (fun k cs hb' _ h => by rcases h with h | h <;> omega)
     unfold putI
     cases hh : hasM (startI pre p).1 x.party with
     | true => simpa [hh] using hq5
     | false =>
      simp only [hh, Bool.false_eq_true, if_false]
      exact QOk.snoc ⟨B, 0, _, rfl, ownsRow_ext hO E9 (fun k hk h => by have h0 : k = B := (by simpa [Value.ownBlock] using hk.symm); have := a.eq; rcases h with h | h <;> omega)⟩ hq5
    ·exact (m7.trans (ExtB.of_ext E5)).trans (E9.mono fun k _ h => .inr h)
   ·have hst : startI (pre ++ [x]) p = startI pre p := by rw [start_snoc]; simp [firstI, hof, hxp]
    rw [hst]
    refine g ?_
    exact RunE.endR ⟨⟨mf, m1, hfr' ▸ m2⟩, m3, ⟨buf, m4, m5⟩, m6, m7⟩ hL3
 ·rintro w11 hJ hD
  rw [List.length_map, List.take_length] at hJ
  obtain ⟨⟨mf, m1, m2⟩, m3, ⟨buf, m4, m5⟩, m6, m7⟩ := hJ
  have hmok : MOk (l.map It.party) (startI st p) := start_ok st hsub (mok_nil _)
  have U14 := Z14'.ext m7 (by rintro (h | h | h) <;> omega)
  have U15 := Z15'.ext m7 (by rintro (h | h | h) <;> omega)
  have U16 := Z16'.ext m7 (by rintro (h | h | h) <;> omega)
  have U17 := Z17'.ext m7 (by rintro (h | h | h) <;> omega)
  have hgw : w.heap.size ≤ B6 := G1
  have X11 : Ext w w11 := X10.write m7 (by rintro k (h | h | h) hlt <;> omega)
  have hcap := hmok.cap
  rw [List.length_map] at hcap
  have hlen0 := hmok.len
  have hs11 : w10.heap.size + 2 ≤ w11.heap.size := m6
  have hfrl : ∀ k, (frmI st k).length ≤ 4096 := fun k => Nat.le_trans (List.length_filter_le _ _) (by omega)
  have hfrs : ∀ k, ∀ x ∈ frmI st k, x.party ∈ l.map It.party := fun k x hx => hsub x (List.mem_filter.1 hx).1
  refine g ?_
  generalize startI st p = s0 at *
  generalize hR : bfsI st ps l.length s0 = R
  clear hG hF
  refine RunE.loop (ι := Nat × MtQ × List Qe) (fun s => [(2, .slice d2 ps.length cp2), (14, .pointer (some ⟨B14, 0, none⟩)), (16, .pointer (some ⟨B16, 0, none⟩)), (17, .pointer (some ⟨B17, 0, none⟩))])
   (fun s w' => bfsI st ps s.1 s.2 = R ∧ s.2.2.length + (l.length - s.2.1.length) ≤ s.1 ∧ MOk (l.map It.party) s.2 ∧ MapW w' RM kvN Value.bool s.2.1 ∧ (∃ buf, ChanAt w' C l.length buf ∧ QOk w' (w10.heap.size + 2) s.2.2 buf) ∧ ExtB (fun k => k = RM ∨ k = C) w11 w') (fun s => s.1) (l.length, s0.1, s0.2) sb_
   ⟨hR, by simp only; omega, hmok, m3, ⟨buf, m4, m5⟩, ExtB.refl _ _⟩ ?_
  clear m3 m4 m5
  rintro ⟨n, m, q⟩ w12 ⟨h1, h2, h3, h4, ⟨buf, h5, h6⟩, X12⟩ again
  simp only at h1 h2 h3 h4 h5 h6 again ⊢
  have V14 := U14.ext X12 (by rintro (h | h) <;> omega)
  have V15 := U15.ext X12 (by rintro (h | h) <;> omega)
  have V16 := U16.ext X12 (by rintro (h | h) <;> omega)
  have V17 := U17.ext X12 (by rintro (h | h) <;> omega)
  have X : Ext w w12 := X11.write X12 (by rintro k (h | h) hlt <;> omega)
  have hD12 := obj_ext hD X12 (by rintro (h | h) <;> omega)
  have hs12 : w10.heap.size + 2 ≤ w12.heap.size := by have := X12.size; omega
  cases q with
  | nil =>
   obtain rfl : buf = [] := List.eq_nil_of_length_eq_zero (by have := h6.len; simpa using this.symm)
   rw [bfs_nil] at h1
   subst h1
   refine g ?_
   refine RunL.evV rfl rfl rfl (OpV.lenChan Tryz.underlying291 rfl h5 (ExtB.refl _ _)) ?_
   refine g ?_
   refine RunE.retFn1 hf_ hD12 fun w' tt => ⟨_, .tmp rfl (.tmp rfl (.tmp rfl .nil)), ⟨_, rfl⟩, X.write tt.ext (by intro k hk hlt; omega)⟩
  | cons e q =>
   cases buf with
   | nil => exact h6.elim
   | cons v0 buf =>
   obtain ⟨⟨b, c, xs, rfl, hO⟩, h6⟩ := h6
   obtain ⟨he1, he8⟩ := h3.small e List.mem_cons_self
   obtain ⟨n, rfl⟩ : ∃ n', n = n' + 1 := ⟨n - 1, by simp only [List.length_cons] at h2; omega⟩
   refine g ?_
   refine RunL.evV rfl rfl rfl (OpV.lenChan Tryz.underlying291 rfl h5 (ExtB.refl _ _)) ?_
   simp only [List.length_cons]
   refine g ?_
   refine RunL.recv rfl rfl Tryz.underlying291 (Tryz.zeroValue293 _) rfl h5 (ExtB.refl _ _) fun w13 h5 E13 s13 => ?_
   have b13 : b ≠ C := by
    rcases hO.2 with ⟨h0, -⟩ | ⟨g, c', cur, h0, hb, hg, -⟩
    ·simp at h0
    ·cases h0; exact ne_chan ‹ChanAt w12 C _ _› hg
   have bge : w10.heap.size + 2 ≤ b := ownsRow_ge hO rfl
   replace hO := ownsRow_ext hO E13 (fun k hk h => b13 ((show k = b by simpa [Value.ownBlock] using hk.symm) ▸ h))
   replace h6 := h6.ext E13 (fun k cs hb hk h => ne_chan ‹ChanAt w12 C _ _› hk h)
   replace h4 := h4.ext E13 (by omega)
   replace V14 := V14.ext E13 (by omega)
   replace V15 := V15.ext E13 (by omega)
   replace V16 := V16.ext E13 (by omega)
   replace V17 := V17.ext E13 (by omega)
   replace X12 : ExtB (fun k => k = RM ∨ k = C) w11 w13 := X12.trans (E13.mono fun k _ h => .inr h)
   replace X : Ext w w13 := X.write E13 (by intro k hk hlt; omega)
   clear E13
   have hbuf := h6.len
   refine g1 (cs := [.slice (some ⟨b, 0, none⟩) e.1 (e.1 + c), .int .i64 e.2]) fun B19 w14 E14 G14 Z19 => ?_
   have hs14 : w10.heap.size + 2 ≤ w14.heap.size := by have := E14.size; omega
   have hD14 := obj_ext hD (X12.trans (ExtB.of_ext E14)) (by rintro (h | h) <;> omega)
   refine gc (bsearchI_ok ps _ e.2 w14 (hpv.up (X.trans E14)) (incI_sorted hps).1 (by omega)) ?_
   rintro _ _ ⟨⟨ri, rfl⟩, rfl⟩
   by_cases hmem : e.2 ∈ ps
   ·have hRt : R = true := by rw [← h1]; simp [bfsI, hmem]
    subst hRt
    rw [decide_eq_true hmem]
    refine g ?_
    refine RunE.retFn1 hf_ hD14 fun w' tt => ⟨_, .tmp rfl (.tmp rfl (.tmp rfl .nil)), ⟨_, rfl⟩, (X.trans E14).write tt.ext (by intro k hk hlt; omega)⟩
   rw [decide_eq_false hmem]
   by_cases h88 : e.1 = 8
   ·have h1' : bfsI st ps n (m, q) = R := by rw [← h1]; simp [bfsI, hmem, h88]
    refine g ?_
    refine RunE.weaken sb_ (again (n, m, q) w14 (by simp only; omega) ⟨h1', by simp only [List.length_cons] at h2 ⊢; omega, h3.tail, h4.up E14, ⟨buf, h5.up E14, h6.up E14⟩, X12.trans (ExtB.of_ext E14)⟩)
   ·have h1' : bfsI st ps n (stepsI (e.1 + 1) (m, q) (frmI st e.2)) = R := by rw [← h1]; simp [bfsI, hmem, h88]
    have m1' := m1.ext (X12.trans (ExtB.of_ext E14)) (by rintro (h | h) <;> omega)
    have m2' := m2.ext (X12.trans (ExtB.of_ext E14)) (fun k cs hb _ h => by rcases h with h | h <;> omega)
    have hG := isSl_own (m2'.own e.2)
    have hgb : ∀ k, ((getM e.2 mf).getD nilV).ownBlock = some k → w10.heap.size + 2 ≤ k := fun k hk => ownsRow_ge (m2'.own e.2) hk
    have hgl := hfrl e.2
    have hgs := hfrs e.2
    have ht3 := h3.tail
    have hO14 := ownsRow_ext hO E14 (fun _ _ h => h)
    obtain ⟨vk, hvk⟩ : ∃ vk, vk = (getM e.2 mf).getD nilV := ⟨_, rfl⟩
    rw [← hvk] at hG hgb
    refine g ?_
    rw [← hvk]
    refine g ?_
    generalize frmI st e.2 = grp at hG hgl hgs h1'
    refine rangeL hG encIt 92 93 94 (fun _ : Unit => [(2, .slice d2 ps.length cp2), (14, .pointer (some ⟨B14, 0, none⟩)), (16, .pointer (some ⟨B16, 0, none⟩)), (17, .pointer (some ⟨B17, 0, none⟩)), (19, .pointer (some ⟨B19, 0, none⟩))])
     (fun j _ w' => MOk (l.map It.party) (stepsI (e.1 + 1) (m, q) (grp.take j)) ∧ (stepsI (e.1 + 1) (m, q) (grp.take j)).2.length + m.length = q.length + (stepsI (e.1 + 1) (m, q) (grp.take j)).1.length ∧ MapW w' RM kvN Value.bool (stepsI (e.1 + 1) (m, q) (grp.take j)).1 ∧
      (∃ buf, ChanAt w' C l.length buf ∧ QOk w' (w10.heap.size + 2) (stepsI (e.1 + 1) (m, q) (grp.take j)).2 buf) ∧ ExtB (fun k => k = RM ∨ k = C) w14 w') () sb_
     ⟨ht3, rfl, h4.up E14, ⟨buf, h5.up E14, h6.up E14⟩, ExtB.refl _ _⟩ ?_ ?_
    ·rintro i ⟨⟩ x w15 hx ⟨a1, a2, a3, ⟨buf, a4, a5⟩, X15⟩ b' o' cap' hve hrx hlt again2
     have htk : grp.take (i + 1) = grp.take i ++ [x] := by rw [List.take_add_one, hx]; rfl
     rw [htk, steps_snoc] at again2
     generalize stepsI (e.1 + 1) (m, q) (grp.take i) = s1 at a1 a2 a3 a5 again2
     obtain ⟨p1, p2, p3⟩ := put_ok (e := (e.1 + 1, x.party)) a1 (hgs x (List.mem_of_getElem? hx)) ⟨by simp only; omega, by simp only; omega⟩
     rw [List.length_map] at p3
     have W15 := (V15.up E14).ext X15 (by rintro (h | h) <;> omega)
     have W16 := (V16.up E14).ext X15 (by rintro (h | h) <;> omega)
     have W17 := (V17.up E14).ext X15 (by rintro (h | h) <;> omega)
     have hbC : ∀ k, (Value.slice (some ⟨b, 0, none⟩) e.1 (e.1 + c)).ownBlock = some k → ¬ (k = RM ∨ k = C) := fun k hk h => by
      obtain rfl : k = b := by simpa [Value.ownBlock] using hk.symm
      rcases h with h | h
      ·omega
      ·exact b13 h
     have W19 := Z19.ext X15 (by rintro (h | h) <;> omega)
     have hO15 := ownsRow_ext hO14 X15 hbC
     have hb' : w10.heap.size + 2 ≤ b' := hgb b' (by rw [hve]; rfl)
     replace hrx := hrx.ext X15 (by rintro (h | h) <;> omega)
     subst hve
     obtain ⟨b0, o0, c0, heq, hRow, hxl, -⟩ := (isSl_own hO15).held he1
     cases heq
     have hs15 := X15.size
     refine g1 (cs := x.cells) fun B23 w16 E16 G16 Z23 => ?_
     refine RunE.draw (fun _ => False) mix' ?_
     intro wd Xd
     have hsd := (E16.trans Xd).size
     refine ga ?_
     refine Asy.sat0 (fun u w' => ∃ B, u = .slice (some ⟨B, 0, none⟩) 1 1 ∧ IsSl w' 1 u 1 [.int .i64 x.no]) rfl rfl rfl rfl (fun u w' w'' _ e ⟨B, h1, h2⟩ => ⟨B, h1, h2.up e⟩) (fun w' _ => ?_) ?_
     ·refine OpE.mono (OpE.buildSl Tryz.tOk [.int .i64 x.no] rfl rfl rfl rfl rfl rfl (by simp [Value.cells])) ?_ fun _ _ h => h
      rintro _ w'' ⟨B, rfl, a⟩; exact ⟨a.ext, B, rfl, isSl_added (n := 1) (sz := 1) a rfl⟩
     refine Asy.sat1 0 (fun u w' => ∃ b c, u = .slice (some ⟨b, 0, none⟩) (e.1 + 1) (e.1 + 1 + c) ∧ ∃ xs, w'.ownsRow (w10.heap.size + 2) 3 1 u (e.1 + 1) xs) rfl rfl rfl rfl rfl rfl (fun u w' w'' _ e ⟨b, c, h1, xs, h2⟩ => ⟨b, c, h1, xs, ownsRow_ext h2 e (fun _ _ h => h)⟩) (fun w' y e' hy => ?_) ?_
     ·obtain ⟨B, rfl, hy⟩ := hy
      have hsz := ((E16.trans Xd).trans e').size
      refine OpE.mono (OpE.appendF Tryz.tOk rfl rfl rfl rfl rfl (hRow.up ((E16.trans Xd).trans e')) hxl hy (by omega) (by show _ * 8 ≤ _; omega) (by omega)) ?_ fun _ _ h => h
      rintro r w'' ⟨g1, g2⟩
      rcases g1.2 with ⟨-, h0⟩ | ⟨gb, cap, cur, rfl, hb1, hb2, hnc, hb3⟩
      ·omega
      ·exact ⟨g2, gb, cap - (e.1 + 1), by rw [Nat.add_sub_cancel' hnc], _, ownsRow_base g1 (by omega)⟩
     refine ga ?_
     refine Asy.sat1 0 (fun u w' => ∃ b c xs, u = wayV (.slice (some ⟨b, 0, none⟩) (e.1 + 1) (e.1 + 1 + c)) x.party ∧ w'.ownsRow (w10.heap.size + 2) 3 1 (.slice (some ⟨b, 0, none⟩) (e.1 + 1) (e.1 + 1 + c)) (e.1 + 1) xs) rfl rfl rfl rfl rfl rfl (fun u w' w'' _ e ⟨b, c, xs, h1, h2⟩ => ⟨b, c, xs, h1, ownsRow_ext h2 e (fun _ _ h => h)⟩) (fun w' y e' hy => ?_) ?_
     ·obtain ⟨b2, c2, rfl, xs2, hy⟩ := hy
      refine OpE.mono (OpV.evp Tryz.tOk rfl).e ?_ fun _ _ h => h
      rintro _ w'' ⟨rfl, rfl⟩; exact ⟨ExtB.refl _ _, b2, c2, xs2, rfl, hy⟩
     refine Asy.tail (by decide +kernel) fun we Xe => ?_
     simp only [satsAll]
     rintro _ ⟨b2, c2, xs2, rfl, hO2⟩ _ - _ -
     have Xq : Ext w15 we := (E16.trans Xd).trans Xe
     have hql := a5.len
     have hml := a1.len
     refine RunL.ex rfl rfl rfl (OpE.callV rfl rfl (RetsX.v (fi := []) (args := [wayV (.slice (some ⟨b2, 0, none⟩) (e.1 + 1) (e.1 + 1 + c2)) x.party]) (ca := [.pointer (some ⟨B15, 0, none⟩), .pointer (some ⟨B16, 0, none⟩)]) (iput_ok s1.1 buf (some ⟨b2, 0, none⟩) (e.1 + 1) (e.1 + 1 + c2) x.party l.length RM C B15 B16 we (W15.up Xq) (W16.up Xq) (a3.up Xq) (a4.up Xq) (fun h => by have := p3 h; omega)))) ?_
     rintro _ w9' ⟨M9, C9, E9⟩
     refine g ?_
     refine RunE.weaken sb_ (again2 () w9' ⟨p1, by omega, ?_, ⟨_, C9, ?_⟩, (X15.trans (ExtB.of_ext Xq)).trans E9⟩)
     ·unfold putI; rw [apply_ite Prod.fst]; exact M9
     ·have hsq := Xq.size
      have hCl := a4.lt
      have hq5 := (a5.up Xq).ext E9 (fun k cs hb' hk h => by
       rcases h with h | h
       ·omega
       ·exact ne_chan (a4.up Xq) hk h)
      unfold putI
      cases hh : hasM s1.1 x.party with
      | true => simpa [hh] using hq5
      | false =>
       simp only [hh, Bool.false_eq_true, if_false]
       refine QOk.snoc ⟨b2, c2, xs2, rfl, ownsRow_ext hO2 E9 (fun k hk h => ?_)⟩ hq5
       have hkb := ownsRow_ge hO2 hk
       rcases h with h | h
       ·omega
       ·rcases hO2.2 with ⟨h0, -⟩ | ⟨gb, cap, cur, h0, hb1, hb2, -⟩
        ·simp at h0
        ·have : k = gb := by rw [h0] at hk; simpa [Value.ownBlock] using hk.symm
         subst this
         exact ne_chan (a4.up Xq) hb2 h
    ·rintro ⟨⟩ w15 ⟨a1, a2, a3, ⟨buf, a4, a5⟩, X15⟩
     rw [List.take_length] at a1 a2 a3 a5
     have hc1 := a1.cap
     rw [List.length_map] at hc1
     refine g ?_
     refine RunE.weaken sb_ (again (n, stepsI (e.1 + 1) (m, q) grp) w15 (by simp only; omega) ⟨h1', by simp only [List.length_cons] at h2 ⊢; omega, a1, a3, ⟨buf, a4, a5⟩, (X12.trans (ExtB.of_ext E14)).trans X15⟩)
end Go.Sg
end
