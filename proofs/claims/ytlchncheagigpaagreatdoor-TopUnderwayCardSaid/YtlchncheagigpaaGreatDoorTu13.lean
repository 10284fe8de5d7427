/- Parts of this project: Per0, Per1, Per2, Per3, Per4, Per5. -/
import Derived.Test.YtlchncheagigpaaGreatDoorTu12
import Derived.Test.YtlchncheagigpaaGreatDoorTu04
import Derived.Test.YtlchncheagigpaaGreatDoorTu02
import Derived.Test.YtlchncheagigpaaGreatDoorTu09
set_option maxHeartbeats 32000000
set_option linter.unusedSimpArgs false
set_option linter.unusedVariables false
set_option linter.unusedSectionVars false
section
set_option maxRecDepth 4000
namespace Go.Per
open Go.Rn Go.Rec Go.Best
structure Hd where
 person : Int
 weight : Int
abbrev Hd.cells (x : Hd) : List Value := [.int .i64 x.person, .int .i64 x.weight]
theorem encHd : EncOk Hd.cells 2 := ⟨fun _ => rfl, fun _ => rfl, by decide⟩
abbrev hdV (x : Hd) : Value := .agg x.cells.toArray
structure Lh where
 l : List Hd
 u : Option Addr
 c : Nat
abbrev Lh.cells (x : Lh) : List Value := [.slice x.u x.l.length x.c]
theorem encLh : EncOk Lh.cells 1 := ⟨fun _ => rfl, fun _ => rfl, by decide⟩
def pplB (l : List Int) : Bool := good (fun n : Int => n) (fun n => decide (n < 64)) (-1) l
def wOk (h : Hd) : Bool := decide (1 ≤ h.weight ∧ h.weight ≤ 64)
def rowOk (l : List Hd) : Bool := l.all wOk && pplB (l.map Hd.person)
def rightH (hs : List (List Hd)) (n : Nat) : Bool := hs.all rowOk && decide (hs.length = n)
structure HoldH (w : World) (hs : List Lh) : Prop where
 h : ∀ x ∈ hs, IsL w Hd.cells 2 (.slice x.u x.l.length x.c) x.l ∧ x.l.length ≤ 100000
theorem HoldH.up {w w' : World} {hs : List Lh} (h : HoldH w hs) (e : Ext w w') : HoldH w' hs := ⟨fun x hx => ⟨(h.h x hx).1.up e, (h.h x hx).2⟩⟩
end Go.Per
namespace Go.Sg
open Go.Rn Go.Proofs Go.Rec Go.RowKit Go.Per Go.Best
attribute [local irreducible] Go.Rn.RetsX Go.Rn.RunLN Go.Rn.AsyN Go.Rn.RunL Go.Rn.RunE Go.Rn.Asy Go.Rn.OpV Go.Rn.OpE Go.Rn.ExecE
theorem ppl_ok (l : List Int) (v : Value) (w : World) (hl : l.length ≤ 100000) (hv : IsL w intC 1 v l) : Rets Tryz.prog 131 [v] w fun r w' => r = .bool (pplB l) ∧ w = w' := by
 obtain ⟨d, cp, rfl⟩ := isSl_slice hv
 unfold pplB
 refine en Tryz.func131 21 fun hf_ => ?_
 refine g ?_
 refine rangeL hv encI 6 7 8 (fun last : Int => [(0, .slice d l.length cp), (3, .int .i64 last)]) (fun i last w' => good (fun n : Int => n) (fun n => decide (n < 64)) (-1) l = good (fun n : Int => n) (fun n => decide (n < 64)) last (l.drop i) ∧ w = w') (-1) sb_ ⟨rfl, rfl⟩ ?_ ?_
 ·rintro i last x _ hx ⟨h1, rfl⟩ b o cap hve hrx hlt again
  cases hve
  have hd : l.drop i = x :: l.drop (i + 1) := by
   obtain ⟨hi, e⟩ := List.getElem?_eq_some_iff.1 hx
   rw [List.drop_eq_getElem_cons hi, e]
  rw [hd] at h1
  simp only [good] at h1
  by_cases c1 : last < x
  ·by_cases c2 : x < 64
   ·rw [decide_eq_true c1, decide_eq_true c2, Bool.true_and, Bool.true_and] at h1
    refine g ?_
    exact RunE.weaken sb_ (again x _ ⟨h1, rfl⟩)
   ·rw [decide_eq_false c2, Bool.false_and, Bool.false_and] at h1
    refine rt ?_
    exact ⟨by rw [h1]; rfl, rfl⟩
  ·rw [decide_eq_false c1, Bool.and_false, Bool.false_and] at h1
   refine rt ?_
   exact ⟨by rw [h1]; rfl, rfl⟩
 ·rintro last _ ⟨h1, rfl⟩
  rw [List.drop_length] at h1
  refine rt ?_
  exact ⟨by rw [h1]; simp [good, oneOr], rfl⟩
theorem rightH_ok (hs : List Lh) (v : Value) (n : Nat) (w : World) (hl : hs.length ≤ 100000) (hn : n ≤ 100000) (hv : IsL w Lh.cells 1 v hs) (hH : HoldH w hs) : Rets Tryz.prog 130 [v, .int .i64 (n : Int)] w fun r w' => r = .bool (rightH (hs.map Lh.l) n) ∧ Ext w w' := by
 obtain ⟨d, cp, rfl⟩ := isSl_slice hv
 unfold rightH
 rw [List.length_map]
 refine en Tryz.func130 44 fun hf_ => ?_
 refine g ?_
 refine rangeL hv encLh 10 11 12 (fun _ : Unit => [(0, .slice d hs.length cp), (1, .int .i64 (n : Int))]) (fun i _ w' => ((hs.map Lh.l).take i).all rowOk = true ∧ Ext w w') () sb_ ⟨rfl, ExtB.refl _ _⟩ ?_ ?_
 ·rintro i ⟨⟩ x w3 hx ⟨ha, X3⟩ b o cap hve hrx hlt again
  cases hve
  obtain ⟨hxl, hxn⟩ := hH.h x (List.mem_of_getElem? hx)
  have hxm : (hs.map Lh.l)[i]? = some x.l := by rw [List.getElem?_map, hx]; rfl
  have good' : rowOk x.l = true → ((hs.map Lh.l).take (i + 1)).all rowOk = true := fun h => all_take hxm ha h
  have bad' : rowOk x.l = false → (hs.map Lh.l).all rowOk = false := fun h => all_bad hxm h
  obtain ⟨xl, xu, xc⟩ := x
  simp only at hxl hxn good' bad'
  have s3 := X3.size
  refine g ?_
  refine rangeL hxl encHd 16 17 18 (fun q : Value => [(0, .slice (some ⟨b, o, none⟩) hs.length cp), (1, .int .i64 (n : Int)), (7, q), (10, .slice (some ⟨b, o, none⟩) hs.length cp), (11, .int .i64 (hs.length : Int)), (12, .int .i64 (i : Int))])
   (fun j q w' => (xl.take j).all wOk = true ∧ w'.ownsRow w3.heap.size 3 1 q ((xl.take j).map Hd.person).length (flat intC ((xl.take j).map Hd.person)) ∧ Ext w3 w') (.slice none 0 0) sb_ ⟨rfl, World.ownsRow_nil _ _ _ _, ExtB.refl _ _⟩ ?_ ?_
  ·rintro j q y w4 hy ⟨hw, hO, X4⟩ b2 o2 cap2 hve2 hry hlt2 again2
   cases hve2
   have s4 := X4.size
   refine g1 (cs := y.cells) fun B9 w5 E5 G5 Z5 => ?_
   by_cases c1 : 1 ≤ y.weight
   case neg =>
    have hb := bad' (by unfold rowOk; rw [all_bad hy (show wOk y = false from decide_eq_false fun h => c1 h.1)]; rfl)
    rw [hb]
    refine rt ?_
    exact ⟨rfl, xt⟩
   by_cases c2 : y.weight ≤ 64
   case neg =>
    have hb := bad' (by unfold rowOk; rw [all_bad hy (show wOk y = false from decide_eq_false fun h => c2 h.2)]; rfl)
    rw [hb]
    refine rt ?_
    exact ⟨rfl, xt⟩
   have htk : (xl.take (j + 1)).map Hd.person = (xl.take j).map Hd.person ++ [y.person] := by rw [List.take_add_one, hy, List.map_append]; rfl
   rw [htk, flat_append, flat_one, List.length_append] at again2
   have hwl : ((xl.take j).map Hd.person).length ≤ 100000 := by rw [List.length_map, List.length_take]; omega
   generalize (xl.take j).map Hd.person = acc at hO again2 hwl
   refine g ?_
   refine ap1 encI y.person hO E5 s4 (by omega) rfl rfl rfl rfl rfl rfl rfl rfl rfl rfl (fun _ => rfl) rfl (fun _ => rfl) fun q1 y' w6 O6 E6 _ => ?_
   refine g ?_
   exact RunE.weaken sb_ (again2 y' w6 ⟨all_take hy hw (decide_eq_true ⟨c1, c2⟩), O6, X4.write E6 (by intro k hk hlt'; have := ownsRow_ge hO hk; omega)⟩)
  ·rintro q w4 ⟨hw, hO, X4⟩
   rw [List.take_length] at hw hO
   have hIs : IsL w4 intC 1 q (xl.map Hd.person) := isSl_own hO
   refine g ?_
   refine gc (ppl_ok (xl.map Hd.person) q w4 (by rw [List.length_map]; exact hxn) hIs) ?_
   rintro _ _ ⟨rfl, rfl⟩
   have hro : rowOk xl = pplB (xl.map Hd.person) := by unfold rowOk; rw [hw]; rfl
   cases hp : pplB (xl.map Hd.person) with
   | true =>
    refine g ?_
    exact RunE.weaken sb_ (again () w4 ⟨good' (by rw [hro, hp]), X3.trans X4⟩)
   | false =>
    rw [bad' (by rw [hro, hp])]
    refine rt ?_
    exact ⟨rfl, xt⟩
 ·rintro ⟨⟩ w3 ⟨ha, X3⟩
  rw [List.take_of_length_le (by simp)] at ha
  rw [ha, Bool.true_and]
  by_cases h : hs.length = n
  ·rw [decide_eq_true h]
   refine rt ?_
   exact ⟨rfl, X3⟩
  ·rw [decide_eq_false h]
   refine rt ?_
   exact ⟨rfl, X3⟩
end Go.Sg
end
section
set_option maxRecDepth 4000
namespace Go.Per
open Go.Rn Go.Rec Go.Pol
def amongL (who : List Int) (row : List Hd) : List Hd := row.filter fun h => decide (h.person ∈ who)
def sumW (l : List Hd) : Int := l.foldl (fun s h => s + h.weight) 0
structure HoldQ (w : World) (hs : List Lh) (hv : Value) (who : List Int) (wv : Value) : Prop where
 hol : IsL w Lh.cells 1 hv hs
 rows : HoldH w hs
 pl : IsL w Go.Sg.intC 1 wv who
 srt : who.Pairwise (· < ·)
 wl : who.length ≤ 100000
 hl : hs.length ≤ 1000
 ok : ∀ x ∈ hs, rowOk x.l = true
theorem HoldQ.keep {S : Nat → Prop} {w w' : World} {hs : List Lh} {hv : Value} {who : List Int} {wv : Value} (h : HoldQ w hs hv who wv) (e : ExtB S w w') (hS : ∀ i, S i → w.heap.size ≤ i) : HoldQ w' hs hv who wv :=
 ⟨isL_keep h.hol (by decide) e hS, ⟨fun x hx => ⟨isL_keep (h.rows.h x hx).1 (by decide) e hS, (h.rows.h x hx).2⟩⟩, isL_keep h.pl (by decide) e hS, h.srt, h.wl, h.hl, h.ok⟩
theorem HoldQ.up {w w' : World} {hs : List Lh} {hv : Value} {who : List Int} {wv : Value} (h : HoldQ w hs hv who wv) (e : Ext w w') : HoldQ w' hs hv who wv := h.keep e fun _ h => h.elim
abbrev qC (val : Int) (hv wv : Value) : List Value := [.int .i64 val, hv, wv]
abbrev amongV (b2 b3 : Nat) : Value := .func (.func 210) #[] #[.pointer (some ⟨b2, 0, none⟩), .pointer (some ⟨b3, 0, none⟩)]
end Go.Per
namespace Go.Sg
open Go.Rn Go.Proofs Go.Rec Go.RowKit Go.Per Go.Best
attribute [local irreducible] Go.Rn.RetsX Go.Rn.RunLN Go.Rn.AsyN Go.Rn.RunL Go.Rn.RunE Go.Rn.Asy Go.Rn.OpV Go.Rn.OpE Go.Rn.ExecE
theorem among_gives (val : Int) (hs : List Lh) (who : List Int) (hv wv : Value) (no : Nat) (x : Lh) (b2 b3 : Nat) (wN w0 : World) (E : Ext wN w0) (hQ : HoldQ wN hs hv who wv) (hx : hs[no]? = some x)
  (Y2 : Blk w0 b2 (qC val hv wv) 214) (Y3 : Blk w0 b3 [.int .i64 (no : Int)] 3) :
  GivesS Tryz.prog (amongV b2 b3) ((amongL who x.l).map fun h => [hdV h]) w0 (fun k => k = b2 ∨ k = b3 ∨ k < wN.heap.size) := by
 intro S J Z y w hS hJ0 hJX hJup hZup hy
 refine RetsX.v (fi := []) (args := [y]) (ca := [.pointer (some ⟨b2, 0, none⟩), .pointer (some ⟨b3, 0, none⟩)]) ?_
 change RetsX Tryz.prog 210 [y, .pointer (some ⟨b2, 0, none⟩), .pointer (some ⟨b3, 0, none⟩)] _ _ _
 obtain ⟨d1, c1, rfl⟩ := isSl_slice hQ.hol
 obtain ⟨d2, c2, rfl⟩ := isSl_slice hQ.pl
 have at_ : ∀ i u, J i u → Blk u b2 (qC val (.slice d1 hs.length c1) (.slice d2 who.length c2)) 214 ∧ Blk u b3 [.int .i64 (no : Int)] 3 ∧ HoldQ u hs (.slice d1 hs.length c1) who (.slice d2 who.length c2) := fun i u h => by
  have e := hJX i u h
  exact ⟨Y2.ext e (hS _ (.inl rfl)), Y3.ext e (hS _ (.inr (.inl rfl))), hQ.keep ((ExtB.of_ext E).trans e) fun k hk => by
   rcases Nat.lt_or_ge k wN.heap.size with h | h
   ·exact absurd hk (hS k (.inr (.inr h)))
   ·exact h⟩
 obtain ⟨U2, U3, UQ⟩ := at_ 0 w hJ0
 have hno := (List.getElem?_eq_some_iff.1 hx).1
 have hxm := List.mem_of_getElem? hx
 have hl := hQ.hl
 obtain ⟨b, o, cap, hve, hr, -⟩ := isL_held UQ.hol hno
 cases hve
 have hrx := flat_row encLh hr hx
 have hxl := (UQ.rows.h x hxm).2
 refine en Tryz.func210 34 fun hf_ => ?_
 refine g ?_
 refine rangeL (UQ.rows.h x hxm).1 encHd 12 13 14 (fun _ : Unit => [(0, y), (1, .pointer (some ⟨b2, 0, none⟩)), (2, .pointer (some ⟨b3, 0, none⟩))]) (fun i _ w' => J ((amongL who (x.l.take i)).length) w') () sb_ hJ0 ?_ ?_
 ·rintro i ⟨⟩ h w3 hh hJ b' o' cap' hve' hrh hlt again
  obtain ⟨V2, V3, VQ⟩ := at_ _ w3 hJ
  obtain ⟨b4, o4, cap4, hve4, hr4, -⟩ := isL_held (VQ.rows.h x hxm).1 hlt
  have hsame : b4 = b' ∧ o4 = o' := by
   rw [hve4] at hve'
   injection hve' with h1 _ _
   injection h1 with h1; injection h1 with h2 h3 _
   exact ⟨h2, h3⟩
  obtain ⟨rfl, rfl⟩ := hsame
  have hrh3 := flat_row encHd hr4 hh
  rw [hve'] at again ⊢
  obtain ⟨f1, f2⟩ := filter_take (fun h : Hd => decide (h.person ∈ who)) hh
  refine g1 (cs := h.cells) fun B5 w4 E4 G5 Z5 => ?_
  have hJ4 := hJup _ _ _ hJ E4
  refine gc (bsearchI_ok who _ h.person w4 (VQ.pl.up E4) VQ.srt VQ.wl) ?_
  rintro _ _ ⟨⟨iv, rfl⟩, rfl⟩
  cases hm : decide (h.person ∈ who) with
  | true =>
   have hyx := hy ((amongL who (x.l.take i)).length) [hdV h] w4 (by
    have := f2 hm
    unfold amongL
    rw [List.getElem?_map, this]; rfl) hJ4
   have hl1 : (amongL who (x.l.take (i + 1))).length = (amongL who (x.l.take i)).length + 1 := by unfold amongL; rw [f1, hm]; simp
   rw [hl1] at again
   refine g ?_
   refine RunL.ex rfl rfl rfl (OpE.callV rfl rfl hyx) ?_
   rintro _ w6 (⟨rfl, hJ6⟩ | ⟨rfl, hZ6⟩)
   ·refine g ?_
    exact RunE.weaken sb_ (again () w6 hJ6)
   ·refine rt ?_
    exact .inr hZ6
  | false =>
   have hl1 : (amongL who (x.l.take (i + 1))).length = (amongL who (x.l.take i)).length := by unfold amongL; rw [f1, hm]; simp
   rw [hl1] at again
   refine g ?_
   exact RunE.weaken sb_ (again () w4 hJ4)
 ·intro s w3 hJ
  rw [List.take_length] at hJ
  refine g ?_
  refine RunE.fallFn hf_ .nil ?_
  rw [List.length_map]; exact .inl hJ
theorem among_ok (val : Int) (hv wv : Value) (no : Int) (d1 d2 : Option Addr) (n1 c1 n2 c2 : Nat) (hh : hv = .slice d1 n1 c1) (hw : wv = .slice d2 n2 c2) (w : World) :
  Rets Tryz.prog 201 [.agg (qC val hv wv).toArray, .int .i64 no] w fun r w' => (∃ b2 b3, r = amongV b2 b3 ∧ w.heap.size ≤ b2 ∧ w.heap.size ≤ b3 ∧ Blk w' b2 (qC val hv wv) 214 ∧ Blk w' b3 [.int .i64 no] 3) ∧ Ext w w' := by
 subst hh hw
 refine en Tryz.func201 6 fun hf_ => ?_
 refine g1 (cs := qC val (.slice d1 n1 c1) (.slice d2 n2 c2)) fun B2 w1 E1 G2 Z2 => ?_
 refine g1 (cs := [.int .i64 no]) fun B3 w2 E2 G3 Z3 => ?_
 refine rt ?_
 exact ⟨⟨B2, B3, rfl, G2, by have := E1.size; omega, Z2.up E2, Z3⟩, E1.trans E2⟩
end Go.Sg
end
section
set_option maxRecDepth 4000
namespace Go.Per
open Go.Rn Go.Rec Go.Pol
def rowOf (rs : List (List Hd)) (no : Int) : List Hd := match rs[no.toNat]? with | some x => x | none => []
theorem sumW_take {l : List Hd} {i : Nat} {x : Hd} (h : l[i]? = some x) : sumW (l.take (i + 1)) = sumW (l.take i) + x.weight := by
 unfold sumW; rw [List.take_add_one, h]; simp
theorem sumW_bound {l : List Hd} (h : ∀ x ∈ l, 1 ≤ x.weight ∧ x.weight ≤ 64) : 0 ≤ sumW l ∧ sumW l ≤ 64 * (l.length : Int) := by
 suffices ∀ (l : List Hd) (s : Int), (∀ x ∈ l, 1 ≤ x.weight ∧ x.weight ≤ 64) → s ≤ l.foldl (fun s h => s + h.weight) s ∧ l.foldl (fun s h => s + h.weight) s ≤ s + 64 * (l.length : Int) by
  have := this l 0 h
  unfold sumW; omega
 intro l
 induction l with
 | nil => intro s _; simp
 | cons x r ih =>
  intro s hs
  have h1 := hs x List.mem_cons_self
  have h2 := ih (s + x.weight) fun y hy => hs y (List.mem_cons_of_mem _ hy)
  simp only [List.foldl_cons, List.length_cons]
  omega
theorem rowOk_w {l : List Hd} (h : rowOk l = true) : ∀ x ∈ l, 1 ≤ x.weight ∧ x.weight ≤ 64 := by
 intro x hx
 unfold rowOk at h
 simp only [Bool.and_eq_true, List.all_eq_true] at h
 have := h.1 x hx
 unfold wOk at this
 simpa using this
end Go.Per
namespace Go.Sg
open Go.Rn Go.Proofs Go.Rec Go.RowKit Go.Pol Go.Per Go.Best
attribute [local irreducible] Go.Rn.RetsX Go.Rn.RunLN Go.Rn.AsyN Go.Rn.RunL Go.Rn.RunE Go.Rn.Asy Go.Rn.OpV Go.Rn.OpE Go.Rn.ExecE
abbrev qAgg (val : Int) (hv wv : Value) : Value := .agg (qC val hv wv).toArray
theorem some_ok (val : Int) (hs : List Lh) (who : List Int) (hv wv : Value) (x : Ex) (no : Nat) (y : Lh) (w : World) (hQ : HoldQ w hs hv who wv) (hno : x.no = no) (hy : hs[no]? = some y) :
  Rets Tryz.prog 171 [qAgg val hv wv, exV x] w fun r w' => r = .bool (decide (amongL who y.l ≠ [])) ∧ Ext w w' := by
 obtain ⟨d1, c1, rfl⟩ := isSl_slice hQ.hol
 obtain ⟨d2, c2, rfl⟩ := isSl_slice hQ.pl
 refine en Tryz.func171 10 fun hf_ => ?_
 refine g1 (cs := qC val (.slice d1 hs.length c1) (.slice d2 who.length c2)) fun B2 w1 E1 G2 Z2 => ?_
 refine g1 (cs := x.cells) fun B3 w2 E2 G3 Z3 => ?_
 refine g ?_
 refine RunL.alloc Tryz.tOk rfl rfl rfl fun B4 w3 a4 => ?_
 have E3 := a4.ext
 have n4 := a4.eq
 have Z4 : Blk w3 B4 [.bool false] 4 := a4.at_
 clear a4
 refine g ?_
 refine gc (among_ok val _ _ x.no _ _ _ _ _ _ rfl rfl _) ?_
 rintro _ w4 ⟨⟨b2, b3, rfl, g2', g3', Y2, Y3⟩, E4⟩
 have X : Ext w w4 := (E1.trans E2).trans (E3.trans E4)
 have l4 := Z4.lt
 have s4 := E4.size
 have U4 := Z4.up E4
 rw [hno] at Y3
 have hG := among_gives val hs who _ _ no y b2 b3 w w4 X hQ hy Y2 Y3
 have hl2 := Y2.lt
 have hl3 := Y3.lt
 have sX := X.size
 have sX3 := (E1.trans (E2.trans E3)).size
 have s2 := (E1.trans E2).size
 generalize hal : amongL who y.l = al at hG ⊢
 refine g ?_
 refine RunE.rangeGivesS (w0 := w4) (F := fun k => k = b2 ∨ k = b3 ∨ k < w.heap.size) rfl ⟨_, hf_⟩ rfl hG (fun k => k = B4) (fun k hk => ?_) (ExtB.refl _ _) (fun xs hxs => ?_) rfl
  (fun j w' => (j = 0 ∨ al = []) ∧ Ext w4 w') (fun w' => (al ≠ [] ∧ Blk w' B4 [.bool true] 4) ∧ ExtB (fun k => k = B4) w4 w') ?_ ?_ ?_ ?_ ?_ ?_ ?_
 ·constructor
  ·intro h; have h : k = B4 := h; omega
  ·omega
 ·obtain ⟨a, -, rfl⟩ := List.mem_map.1 hxs; rfl
 ·intro w2 e _; exact ⟨.inl rfl, e⟩
 ·rintro j u ⟨-, h⟩; exact ExtB.of_ext h
 ·rintro j u u' ⟨h', h⟩ e; exact ⟨h', h.write e (by intro k hk hlt; omega)⟩
 ·rintro u u' ⟨⟨h1, h2⟩, h3⟩ e
  exact ⟨⟨h1, h2.ext e (by omega)⟩, h3.write e (by intro k hk hlt; omega)⟩
 ·rintro j xs u lp hxs ⟨hj, hE⟩ hL hs'
  obtain ⟨h, hh, rfl⟩ : ∃ h, al[j]? = some h ∧ xs = [hdV h] := by
   simp only [List.getElem?_map, Option.map_eq_some_iff] at hxs
   obtain ⟨a, h, rfl⟩ := hxs; exact ⟨a, h, rfl⟩
  have hne : al ≠ [] := by rintro rfl; simp at hh
  have su := hE.size
  simp only [parEnv]
  refine g ?_
  refine RunE.beginR hL hs' (by omega) fun u3 t3 hL3 => ?_
  have Y4 := (U4.up hE).ext t3 (by omega)
  refine g ?_
  refine RunL.store Tryz.tOk rfl rfl rfl rfl rfl Y4 rfl rfl fun u5 t5 => ?_
  refine g ?_
  exact RunE.stopS ⟨⟨hne, t5.at_⟩, ((ExtB.of_ext hE).write t3 (by intro k hk hlt; omega)).trans t5.ext⟩ (hL3.ext t5.ext (by omega) (by omega))
 ·rintro w5 ⟨hj, hE⟩ hD
  have h0 : al = [] := by
   rcases hj with h | h
   ·exact List.length_eq_zero_iff.1 (by simpa using h)
   ·exact h
  have Y4 := U4.up hE
  refine g ?_
  refine RunL.store Tryz.tOk rfl rfl rfl rfl rfl Y4 rfl rfl fun u5 t5 => ?_
  refine g ?_
  refine RunE.retFn1 hf_ (obj_ext hD t5.ext (by omega)) fun w9 t9 => ⟨_, .cell rfl (Loads.scalar Tryz.tOk rfl rfl ((Blk.ext (show Blk u5 B4 _ 4 from t5.at_) t9.ext (by omega)).cell rfl)) .nil, ?_, ?_⟩
  ·rw [h0]; rfl
  ·exact ((X.trans hE).write t5.ext (by intro k hk hlt; have hk : k = B4 := hk; omega)).write t9.ext (by intro k hk hlt; have hk : k = w4.heap.size := hk; omega)
 ·rintro w5 ⟨⟨hne, Y4⟩, hE⟩ hD
  refine RunE.retFn1 hf_ hD fun w9 t9 => ⟨_, .cell rfl (Loads.scalar Tryz.tOk rfl rfl ((Y4.ext t9.ext (by omega)).cell rfl)) .nil, ?_, ?_⟩
  ·rw [decide_eq_true hne]; rfl
  ·exact (X.write hE (by intro k hk hlt; have hk : k = B4 := hk; omega)).write t9.ext (by intro k hk hlt; have hk : k = w4.heap.size := hk; omega)
theorem add_ok (h : Hd) (a : Int) (b : Nat) (w : World) (Z : Blk w b [.int .i64 a] 3) (hb : 0 ≤ a ∧ a ≤ 1000000000) (hw : 0 ≤ h.weight ∧ h.weight ≤ 64) :
  Rets Tryz.prog 202 [hdV h, .pointer (some ⟨b, 0, none⟩)] w fun _ w' => Blk w' b [.int .i64 (a + h.weight)] 3 ∧ ExtB (fun k => k = b) w w' := by
 refine en Tryz.func202 7 fun hf_ => ?_
 have lb := Z.lt
 refine g1 (cs := h.cells) fun B2 w1 E1 G2 Z2 => ?_
 have Z1 := Z.up E1
 refine g ?_
 refine RunL.store Tryz.tOk rfl rfl rfl rfl rfl Z1 rfl rfl fun u5 t5 => ?_
 refine g ?_
 refine RunE.fallFn hf_ .nil ?_
 exact ⟨t5.at_, (ExtB.of_ext E1).trans t5.ext⟩
abbrev addV (b : Nat) : Value := .func (.func 202) #[] #[.pointer (some ⟨b, 0, none⟩)]
theorem weight_ok (val : Int) (hs : List Lh) (who : List Int) (hv wv : Value) (x : Ex) (no : Nat) (y : Lh) (w : World) (hQ : HoldQ w hs hv who wv) (hno : x.no = no) (hy : hs[no]? = some y) :
  Rets Tryz.prog 172 [qAgg val hv wv, exV x] w fun r w' => r = .bool (decide (sumW (amongL who y.l) ≥ x.n)) ∧ Ext w w' := by
 obtain ⟨d1, c1, rfl⟩ := isSl_slice hQ.hol
 obtain ⟨d2, c2, rfl⟩ := isSl_slice hQ.pl
 have hmem := List.mem_of_getElem? hy
 have hwt : ∀ h ∈ amongL who y.l, 1 ≤ h.weight ∧ h.weight ≤ 64 := fun h hh => rowOk_w (hQ.ok y hmem) h (List.mem_filter.1 hh).1
 have hlen : (amongL who y.l).length ≤ 100000 := Nat.le_trans (List.length_filter_le _ _) (hQ.rows.h y hmem).2
 refine en Tryz.func172 21 fun hf_ => ?_
 refine g1 (cs := qC val (.slice d1 hs.length c1) (.slice d2 who.length c2)) fun B2 w1 E1 G2 Z2 => ?_
 refine g1 (cs := x.cells) fun B3 w2 E2 G3 Z3 => ?_
 refine g1 (cs := [.int .i64 0]) fun B5 w3 E3 G5 Z5 => ?_
 refine g1 (cs := [addV B5]) fun B6 w3' E3' G6 Z6 => ?_
 refine g ?_
 refine gc (among_ok val _ _ x.no _ _ _ _ _ _ rfl rfl w3') ?_
 rintro _ w4 ⟨⟨b2, b3, rfl, g2', g3', Y2, Y3⟩, E4⟩
 have X : Ext w w4 := (E1.trans E2).trans ((E3.trans E3').trans E4)
 have l5 := Z5.lt
 have l6 := Z6.lt
 have l3 := Z3.lt
 have s4 := E4.size
 have s3' := E3'.size
 have s3 := E3.size
 have U5 := Z5.up (E3'.trans E4)
 have U6 := Z6.up E4
 have U3 := Z3.up ((E3.trans E3').trans E4)
 rw [hno] at Y3
 have hG := among_gives val hs who _ _ no y b2 b3 w w4 X hQ hy Y2 Y3
 have hl2 := Y2.lt
 have hl3 := Y3.lt
 have sX := X.size
 have s2 := (E1.trans E2).size
 generalize amongL who y.l = al at hG hwt hlen ⊢
 refine g ?_
 refine RunE.rangeGivesS (w0 := w4) (F := fun k => k = b2 ∨ k = b3 ∨ k < w.heap.size) rfl ⟨_, hf_⟩ rfl hG (fun k => k = B5) (fun k hk => ?_) (ExtB.refl _ _) (fun xs hxs => ?_) rfl
  (fun j w' => Blk w' B5 [.int .i64 (sumW (al.take j))] 3 ∧ ExtB (fun k => k = B5) w4 w') (fun _ => False) ?_ ?_ ?_ ?_ ?_ ?_ ?_
 ·constructor
  ·intro h; have h : k = B5 := h; omega
  ·omega
 ·obtain ⟨a, -, rfl⟩ := List.mem_map.1 hxs; rfl
 ·intro w2 e _; exact ⟨by simpa [sumW] using U5.up e, ExtB.of_ext e⟩
 ·rintro j u ⟨-, h⟩; exact h
 ·rintro j u u' ⟨h', h⟩ e; exact ⟨h'.ext e (by omega), h.write e (by intro k hk hlt; omega)⟩
 ·rintro u u' h e; exact h
 ·rintro j xs u lp hxs ⟨hj, hE⟩ hL hs'
  obtain ⟨h, hh, rfl⟩ : ∃ h, al[j]? = some h ∧ xs = [hdV h] := by
   simp only [List.getElem?_map, Option.map_eq_some_iff] at hxs
   obtain ⟨a, h, rfl⟩ := hxs; exact ⟨a, h, rfl⟩
  have su := hE.size
  have hbd := sumW_bound (l := al.take j) fun z hz => hwt z (List.mem_of_mem_take hz)
  have hlj : (al.take j).length ≤ 100000 := by rw [List.length_take]; omega
  have hhw := hwt h (List.mem_of_getElem? hh)
  have hLl := lt_of_get hL.l
  simp only [parEnv]
  rw [sumW_take hh]
  generalize sumW (al.take j) = sm at hj hbd ⊢
  generalize (al.take j).length = nj at hbd hlj
  refine g1 (cs := h.cells) fun B7 u1 A1 G7 Z7 => ?_
  refine RunE.beginR (hL.up A1) hs' (by omega) fun u3 t3 hL3 => ?_
  have sA := A1.size
  have Y5 := (hj.up A1).ext t3 (by omega)
  have EX : ExtB (fun k => k = B5) w4 u3 := (hE.trans (ExtB.of_ext A1)).write t3 (by intro k hk hlt; omega)
  have Y6 := U6.ext EX (by omega)
  have Y7 := Z7.ext t3 (by omega)
  have s33 := t3.size
  refine g ?_
  refine RunL.ex rfl rfl rfl (OpE.callV rfl rfl (RetsX.v (fi := []) (args := [hdV h]) (ca := [.pointer (some ⟨B5, 0, none⟩)]) (add_ok h sm B5 u3 Y5 (by omega) (by omega)))) ?_
  rintro _ u5 ⟨hB, hE5⟩
  refine g ?_
  exact RunE.endS ⟨hB, EX.trans hE5⟩ (hL3.ext hE5 (by omega) (by omega))
 ·rintro w5 ⟨hB, hE⟩ hD
  rw [List.length_map, List.take_length] at hB
  have Y3' := U3.ext hE (by omega)
  have hfin : Ext w w5 := X.write hE (by intro k hk hlt; have hk : k = B5 := hk; omega)
  generalize hsm : sumW al = sm at hB ⊢
  by_cases hge : sm ≥ x.n
  case' pos => rw [decide_eq_true hge]
  case' neg => rw [decide_eq_false hge]
  all_goals
   refine g ?_
   refine RunE.retFn1 hf_ hD fun w9 t9 => ⟨_, .tmp rfl .nil, rfl, hfin.write t9.ext (by intro k hk hlt; have hk : k = w4.heap.size := hk; omega)⟩
 ·rintro w5 h hD; exact h.elim
end Go.Sg
end
section
set_option maxRecDepth 4000
namespace Go.Per
open Go.Rn Go.Rec Go.Pol
def fulF (val : Int) (hs : List (List Hd)) (who : List Int) : Nat → Ex → Bool
 | 0, _ => false
 | n + 1, x => if x.kind = 1 then decide (amongL who (rowOf hs x.no) ≠ []) else if x.kind = 2 then decide (sumW (amongL who (rowOf hs x.no)) ≥ x.n)
  else if x.kind = 3 then decide (((x.l.filter (fulF val hs who n)).length : Int) ≥ x.n) else match x.l[if val ≤ x.n then 0 else 1]? with | some y => fulF val hs who n y | none => false
structure Ok1 (nh : Nat) (x : Ex) : Prop where
 k : 1 ≤ x.kind ∧ x.kind ≤ 4
 no : x.kind ≤ 2 → 0 ≤ x.no ∧ x.no < (nh : Int)
 l : x.kind = 4 → x.l.length = 2
theorem parts_kid {x y : Ex} (h : y ∈ x.l) (d : Int) : ∀ z ∈ partsE y (d + 1), z ∈ partsE x d := by
 intro z hz
 rw [partsE_eq x]
 refine List.mem_cons_of_mem _ ?_
 generalize d + 1 = d at hz
 generalize x.l = l at h
 induction l with
 | nil => cases h
 | cons a r ih =>
  rw [partsL_cons]
  rcases List.mem_cons.1 h with rfl | h
  ·exact List.mem_append_left _ hz
  ·exact List.mem_append_right _ (ih h)
theorem parts_self (x : Ex) (d : Int) : (x, d) ∈ partsE x d := by rw [partsE_eq]; exact List.mem_cons_self
end Go.Per
namespace Go.Sg
open Go.Rn Go.Proofs Go.Rec Go.RowKit Go.Pol Go.Per Go.Best
attribute [local irreducible] Go.Rn.RetsX Go.Rn.RunLN Go.Rn.AsyN Go.Rn.RunL Go.Rn.RunE Go.Rn.Asy Go.Rn.OpV Go.Rn.OpE Go.Rn.ExecE
theorem of_ok (val : Int) (hv wv : Value) (x : Ex) (f : Ex → Bool) (N : Nat) (w : World) (hq1 : ∃ d n c, hv = .slice d n c) (hq2 : ∃ d n c, wv = .slice d n c) (hH : HoldE w N x) (hl : x.l.length ≤ 1000)
  (ih : ∀ y ∈ x.l, ∀ w', Ext w w' → Rets Tryz.prog 132 [qAgg val hv wv, exV y] w' fun r w'' => r = .bool (f y) ∧ Ext w' w'') :
  Rets Tryz.prog 173 [qAgg val hv wv, exV x] w fun r w' => r = .bool (decide (((x.l.filter f).length : Int) ≥ x.n)) ∧ Ext w w' := by
 obtain ⟨d1, n1, c1, rfl⟩ := hq1
 obtain ⟨d2, n2, c2, rfl⟩ := hq2
 have hL := hH.list
 refine en Tryz.func173 25 fun hf_ => ?_
 refine g1 (cs := qC val (.slice d1 n1 c1) (.slice d2 n2 c2)) fun B2 w1 E1 G2 Z2 => ?_
 refine g1 (cs := x.cells) fun B3 w2 E2 G3 Z3 => ?_
 have X2 : Ext w w2 := E1.trans E2
 have Y2 := Z2.up E2
 refine g ?_
 refine rangeL (hL.up X2) encEx 9 10 11 (fun c : Nat => [(2, .pointer (some ⟨B2, 0, none⟩)), (3, .pointer (some ⟨B3, 0, none⟩)), (5, .int .i64 (c : Int))]) (fun i c w' => c = ((x.l.take i).filter f).length ∧ Ext w2 w') 0 sb_ ⟨rfl, ExtB.refl _ _⟩ ?_ ?_
 ·rintro i c y w3 hy ⟨hc, X3⟩ b o cap hve hrx hlt again
  have hcl : c ≤ 1000 := by rw [hc]; exact Nat.le_trans (List.length_filter_le _ _) (by rw [List.length_take]; omega)
  have htk : ((x.l.take (i + 1)).filter f).length = ((x.l.take i).filter f).length + (if f y then 1 else 0) := by
   rw [List.take_add_one, hy, List.filter_append, List.length_append]; cases hf : f y <;> simp [hf]
  rw [hve] at again ⊢
  refine g1 (cs := y.cells) fun B7 w4 E4 G7 Z7 => ?_
  have V2 := Y2.up (X3.trans E4)
  refine g ?_
  refine gc (ih y (List.mem_of_getElem? hy) w4 (X2.trans (X3.trans E4))) ?_
  rintro _ w5 ⟨rfl, E5⟩
  cases hf : f y with
  | true =>
   rw [hf, if_pos rfl] at htk
   refine g ?_
   exact RunE.weaken sb_ (again (c + 1) w5 ⟨by rw [htk, hc], X3.trans (E4.trans E5)⟩)
  | false =>
   rw [hf, if_neg (by simp)] at htk
   refine g ?_
   exact RunE.weaken sb_ (again c w5 ⟨by rw [htk, hc]; rfl, X3.trans (E4.trans E5)⟩)
 ·rintro c w3 ⟨hc, X3⟩
  rw [List.take_length] at hc
  rw [← hc]
  have V3 := Z3.up X3
  by_cases hge : (c : Int) ≥ x.n
  case' pos => rw [decide_eq_true hge]
  case' neg => rw [decide_eq_false hge]
  all_goals
   refine rt ?_
   exact ⟨rfl, X2.trans X3⟩
theorem upto_ok (val : Int) (hv wv : Value) (x : Ex) (f : Ex → Bool) (N : Nat) (w : World) (hq1 : ∃ d n c, hv = .slice d n c) (hq2 : ∃ d n c, wv = .slice d n c) (hH : HoldE w N x) (hl : x.l.length = 2)
  (ih : ∀ y ∈ x.l, ∀ w', Ext w w' → Rets Tryz.prog 132 [qAgg val hv wv, exV y] w' fun r w'' => r = .bool (f y) ∧ Ext w' w'') :
  Rets Tryz.prog 174 [qAgg val hv wv, exV x] w fun r w' => r = .bool (match x.l[if val ≤ x.n then 0 else 1]? with | some y => f y | none => false) ∧ Ext w w' := by
 obtain ⟨d1, n1, c1, rfl⟩ := hq1
 obtain ⟨d2, n2, c2, rfl⟩ := hq2
 obtain ⟨b, o, cap, hve, hr, hcp⟩ := isL_held hH.list (show 0 < x.l.length by omega)
 obtain ⟨y0, y1, hxl⟩ : ∃ y0 y1, x.l = [y0, y1] := by
  match hm : x.l, hl with
  | [a, b], _ => exact ⟨a, b, rfl⟩
 have i0 := ih y0 (by rw [hxl]; simp)
 have i1 := ih y1 (by rw [hxl]; simp)
 have r0 : Row w b (o + 0 * 5) y0.cells := flat_row encEx hr (i := 0) (by rw [hxl]; rfl)
 have r1 : Row w b (o + 1 * 5) y1.cells := flat_row encEx hr (i := 1) (by rw [hxl]; rfl)
 rw [hxl]
 refine en Tryz.func174 22 fun hf_ => ?_
 refine g1 (cs := qC val (.slice d1 n1 c1) (.slice d2 n2 c2)) fun B2 w1 E1 G2 Z2 => ?_
 refine g1 (cs := x.cells) fun B3 w2 E2 G3 Z3 => ?_
 have X2 : Ext w w2 := E1.trans E2
 have Y2 := Z2.up E2
 replace Z3 : Blk w2 B3 [.int .i64 x.kind, .int .i64 x.n, .int .i64 x.no, .string x.name, .slice (some ⟨b, o, none⟩) x.l.length cap] 78 := by rw [← hve]; exact Z3
 by_cases hle : val ≤ x.n
 case' pos =>
  rw [if_pos hle]
  simp only [List.getElem?_cons_zero]
  refine g ?_
  refine RunE.draw (fun _ => False) mix' ?_
  intro wd Xd
  refine ga ?_
  refine Asy.evV rfl rfl rfl rfl (fun _ _ => OpV.indexS Tryz.tOk 0 rfl rfl rfl (by omega) (by omega)) ?_
  have hcall := fun w' (e : Ext wd w') => i0 w' (X2.trans (Xd.trans e))
  generalize f y0 = fy at hcall ⊢
 case' neg =>
  rw [if_neg hle]
  simp only [List.getElem?_cons_succ, List.getElem?_cons_zero]
  refine g ?_
  refine RunE.draw (fun _ => False) mix' ?_
  intro wd Xd
  refine ga ?_
  refine Asy.evV rfl rfl rfl rfl (fun _ _ => OpV.indexS Tryz.tOk 1 rfl rfl rfl (by omega) (by omega)) ?_
  have hcall := fun w' (e : Ext wd w') => i1 w' (X2.trans (Xd.trans e))
  generalize f y1 = fy at hcall ⊢
 all_goals
  refine ga ?_
  refine Asy.val rfl rfl rfl rfl (fun w' X_ => OpE.call rfl (hcall w' X_)) ?_
  refine Asy.tail (by decide +kernel) fun we Xe => ?_
  simp only [satsAll]
  cases fy
  all_goals
   refine rt ?_
   exact ⟨rfl, X2.trans (Xd.trans Xe)⟩
end Go.Sg
end
section
set_option maxRecDepth 4000
namespace Go.Sg
open Go.Rn Go.Proofs Go.Rec Go.RowKit Go.Pol Go.Per Go.Best
attribute [local irreducible] Go.Rn.RetsX Go.Rn.RunLN Go.Rn.AsyN Go.Rn.RunL Go.Rn.RunE Go.Rn.Asy Go.Rn.OpV Go.Rn.OpE Go.Rn.ExecE
theorem fulfil_ok (val : Int) (hs : List Lh) (who : List Int) (hv wv : Value) : ∀ (n : Nat) (x : Ex) (d : Int), numE x ≤ n → n ≤ 1000 → (∀ z ∈ partsE x d, Ok1 hs.length z.1) → ∀ (N : Nat) (w : World), HoldE w N x → HoldQ w hs hv who wv →
  Rets Tryz.prog 132 [qAgg val hv wv, exV x] w fun r w' => r = .bool (fulF val (hs.map Lh.l) who n x) ∧ Ext w w' := by
 intro n
 induction n with
 | zero => intro x d hn; have := numE_pos x; omega
 | succ n ih =>
  intro x d hn hn1 hok N w hH hQ
  have o1 : Ok1 hs.length x := hok _ (parts_self x d)
  have hlen := numE_len x
  have ihk : ∀ y ∈ x.l, ∀ w', Ext w w' → Rets Tryz.prog 132 [qAgg val hv wv, exV y] w' fun r w'' => r = .bool (fulF val (hs.map Lh.l) who n y) ∧ Ext w' w'' := fun y hy w' e =>
   ih y (d + 1) (by have := numE_kid hy; omega) (by omega) (fun z hz => hok z (parts_kid hy d z hz)) N w' ((hH.kids y hy).up e) (hQ.up e)
  obtain ⟨d1, c1, rfl⟩ := isSl_slice hQ.hol
  obtain ⟨d2, c2, rfl⟩ := isSl_slice hQ.pl
  have hc : ∃ fn : Nat, ((x.kind = 1 ∧ fn = 171) ∨ (x.kind = 2 ∧ fn = 172) ∨ (x.kind = 3 ∧ fn = 173) ∨ (x.kind = 4 ∧ fn = 174)) ∧
    ∀ w', Ext w w' → Rets Tryz.prog fn [qAgg val (.slice d1 hs.length c1) (.slice d2 who.length c2), exV x] w' fun r w'' => r = .bool (fulF val (hs.map Lh.l) who (n + 1) x) ∧ Ext w' w'' := by
   have hk := o1.k
   have row : x.kind ≤ 2 → ∃ (no : Nat) (y : Lh), x.no = no ∧ hs[no]? = some y ∧ rowOf (hs.map Lh.l) x.no = y.l := fun h => by
    obtain ⟨h1, h2⟩ := o1.no h
    have hlt : x.no.toNat < hs.length := by omega
    refine ⟨x.no.toNat, hs[x.no.toNat], by omega, List.getElem?_eq_getElem hlt, ?_⟩
    unfold rowOf; rw [List.getElem?_map, List.getElem?_eq_getElem hlt]; rfl
   obtain h | h | h | h : x.kind = 1 ∨ x.kind = 2 ∨ x.kind = 3 ∨ x.kind = 4 := by omega
   ·obtain ⟨no, y, e1, e2, e3⟩ := row (by omega)
    refine ⟨_, .inl ⟨h, rfl⟩, fun w' e => ?_⟩
    have := some_ok val hs who _ _ x no y w' (hQ.up e) e1 e2
    simp only [fulF, h, if_true, e3]; exact this
   ·obtain ⟨no, y, e1, e2, e3⟩ := row (by omega)
    refine ⟨_, .inr (.inl ⟨h, rfl⟩), fun w' e => ?_⟩
    have := weight_ok val hs who _ _ x no y w' (hQ.up e) e1 e2
    simp only [fulF, h, if_true, e3, if_neg (show ¬ (2 : Int) = 1 by decide)]; exact this
   ·refine ⟨_, .inr (.inr (.inl ⟨h, rfl⟩)), fun w' e => ?_⟩
    have := of_ok val _ _ x (fulF val (hs.map Lh.l) who n) N w' ⟨_, _, _, rfl⟩ ⟨_, _, _, rfl⟩ (hH.up e) (by omega) fun y hy w'' e' => ihk y hy w'' (e.trans e')
    simp only [fulF, h, if_true, if_neg (show ¬ (3 : Int) = 1 by decide), if_neg (show ¬ (3 : Int) = 2 by decide)]; exact this
   ·refine ⟨_, .inr (.inr (.inr ⟨h, rfl⟩)), fun w' e => ?_⟩
    have := upto_ok val _ _ x (fulF val (hs.map Lh.l) who n) N w' ⟨_, _, _, rfl⟩ ⟨_, _, _, rfl⟩ (hH.up e) (o1.l h) fun y hy w'' e' => ihk y hy w'' (e.trans e')
    simp only [fulF, h, if_neg (show ¬ (4 : Int) = 1 by decide), if_neg (show ¬ (4 : Int) = 2 by decide), if_neg (show ¬ (4 : Int) = 3 by decide)]; exact this
  obtain ⟨fn, hk, hcall⟩ := hc
  clear ih ihk
  generalize fulF val (hs.map Lh.l) who (n + 1) x = fx at hcall ⊢
  refine en Tryz.func132 14 fun hf_ => ?_
  refine g1 (cs := qC val (.slice d1 hs.length c1) (.slice d2 who.length c2)) fun B2 w1 E1 G2 Z2 => ?_
  refine g1 (cs := x.cells) fun B3 w2 E2 G3 Z3 => ?_
  refine g1 (cs := [.nilFunc, fnV 171, fnV 172, fnV 173, fnV 174]) fun B5 w3 E3 G5 Z5 => ?_
  have Y2 := Z2.up (E2.trans E3)
  have Y3 := Z3.up E3
  have XX : Ext w w3 := (E1.trans E2).trans E3
  rcases hk with ⟨hk, rfl⟩ | ⟨hk, rfl⟩ | ⟨hk, rfl⟩ | ⟨hk, rfl⟩
  ·refine g ?_
   refine RunE.draw (fun _ => False) mix' ?_
   intro wd Xd
   refine ga ?_
   refine Asy.evV rfl rfl rfl rfl (fun _ _ => OpV.indexA Tryz.tOk 1 rfl rfl rfl (by omega) (by decide)) ?_
   refine ga ?_
   refine Asy.val rfl rfl rfl rfl (fun w' X_ => OpE.callV rfl rfl (RetsX.v (fi := []) (args := [qAgg val (.slice d1 hs.length c1) (.slice d2 who.length c2), exV x]) (ca := []) (hcall w' (XX.trans (Xd.trans X_))))) ?_
   refine Asy.tail (by decide +kernel) fun we Xe => ?_
   simp only [satsAll]
   cases fx
   all_goals
    refine rt ?_
    exact ⟨rfl, XX.trans (Xd.trans Xe)⟩
  ·refine g ?_
   refine RunE.draw (fun _ => False) mix' ?_
   intro wd Xd
   refine ga ?_
   refine Asy.evV rfl rfl rfl rfl (fun _ _ => OpV.indexA Tryz.tOk 2 rfl rfl rfl (by omega) (by decide)) ?_
   refine ga ?_
   refine Asy.val rfl rfl rfl rfl (fun w' X_ => OpE.callV rfl rfl (RetsX.v (fi := []) (args := [qAgg val (.slice d1 hs.length c1) (.slice d2 who.length c2), exV x]) (ca := []) (hcall w' (XX.trans (Xd.trans X_))))) ?_
   refine Asy.tail (by decide +kernel) fun we Xe => ?_
   simp only [satsAll]
   cases fx
   all_goals
    refine rt ?_
    exact ⟨rfl, XX.trans (Xd.trans Xe)⟩
  ·refine g ?_
   refine RunE.draw (fun _ => False) mix' ?_
   intro wd Xd
   refine ga ?_
   refine Asy.evV rfl rfl rfl rfl (fun _ _ => OpV.indexA Tryz.tOk 3 rfl rfl rfl (by omega) (by decide)) ?_
   refine ga ?_
   refine Asy.val rfl rfl rfl rfl (fun w' X_ => OpE.callV rfl rfl (RetsX.v (fi := []) (args := [qAgg val (.slice d1 hs.length c1) (.slice d2 who.length c2), exV x]) (ca := []) (hcall w' (XX.trans (Xd.trans X_))))) ?_
   refine Asy.tail (by decide +kernel) fun we Xe => ?_
   simp only [satsAll]
   cases fx
   all_goals
    refine rt ?_
    exact ⟨rfl, XX.trans (Xd.trans Xe)⟩
  ·refine g ?_
   refine RunE.draw (fun _ => False) mix' ?_
   intro wd Xd
   refine ga ?_
   refine Asy.evV rfl rfl rfl rfl (fun _ _ => OpV.indexA Tryz.tOk 4 rfl rfl rfl (by omega) (by decide)) ?_
   refine ga ?_
   refine Asy.val rfl rfl rfl rfl (fun w' X_ => OpE.callV rfl rfl (RetsX.v (fi := []) (args := [qAgg val (.slice d1 hs.length c1) (.slice d2 who.length c2), exV x]) (ca := []) (hcall w' (XX.trans (Xd.trans X_))))) ?_
   refine Asy.tail (by decide +kernel) fun we Xe => ?_
   simp only [satsAll]
   cases fx
   all_goals
    refine rt ?_
    exact ⟨rfl, XX.trans (Xd.trans Xe)⟩
end Go.Sg
namespace Go.Per
open Go.Rn Go.Rec Go.Pol
def ruleF (p : Po) (kind val : Int) (rs : List (List Hd)) (who : List Int) : Bool := match p.rules[kind.toNat]? with
 | some r => fulF val rs who 40 r.ex
 | none => false
theorem ruleF_at {p : Po} {kn : Nat} {ru : Ru} (h : p.rules[kn]? = some ru) (val : Int) (rs : List (List Hd)) (who : List Int) : ruleF p (kn : Int) val rs who = fulF val rs who 40 ru.ex := by
 unfold ruleF; rw [Int.toNat_natCast, h]
def permB (p : Po) (kind val : Int) (rs : List (List Hd)) (who : List Int) : Bool :=
 decide (0 ≤ kind) && (decide (kind < (p.kinds.length : Int)) && (decide (0 ≤ val) && (decide (val ≤ 1099511627776) && (rightH rs p.offices.length && (pplB who && ruleF p kind val rs who)))))
theorem idxS_lt {l : List ByteArray} {s : ByteArray} : idxS l s < (l.length : Int) := by
 unfold idxS
 cases h : l.findIdx? (eqS s) with
 | none => simp only; omega
 | some i =>
  have := List.findIdx?_eq_some_iff_getElem.1 h
  obtain ⟨h1, -⟩ := this
  simp only; omega
theorem ok1_of {p : Po} (h : checkP p = true) {x : Ex} (hx : x ∈ exprsP p) : ∀ z ∈ partsE x 1, Ok1 p.offices.length z.1 := by
 intro z hz
 unfold checkP okP at h
 simp only [Bool.and_eq_true, List.all_eq_true, List.mem_range] at h
 obtain ⟨⟨hsz, hnm, hfm⟩, hru, hch⟩ := h
 have hn : nmP p z = true := by
  unfold namesB at hnm
  simp only [Bool.and_eq_true, List.all_eq_true] at hnm
  exact hnm.2 x hx z hz
 have hf : 1 ≤ z.1.kind ∧ z.1.kind ≤ 4 ∧ kindB z.1 = true := by
  unfold formB at hfm
  simp only [Bool.and_eq_true, List.all_eq_true, List.mem_range] at hfm
  obtain ⟨i, hi, he⟩ := List.getElem_of_mem hx
  have h1 := hfm.2.2 i hi
  unfold exB at h1
  rw [List.getElem?_eq_getElem hi, he] at h1
  simp only [List.all_eq_true] at h1
  have h2 := h1 z hz
  unfold formP at h2
  simp only [Bool.and_eq_true, decide_eq_true_eq] at h2
  exact ⟨h2.1.1, h2.1.2, h2.2.1⟩
 have hr : resB p.offices x = true := by
  unfold exprsP at hx
  rcases List.mem_append.1 hx with hx | hx
  ·obtain ⟨r, hr, rfl⟩ := List.mem_map.1 hx
   obtain ⟨i, hi, rfl⟩ := List.getElem_of_mem hr
   have h1 := hru i hi
   unfold ruOk at h1
   rw [List.getElem?_eq_getElem hi] at h1
   simp only [Bool.and_eq_true] at h1
   exact h1.2
  ·rw [List.mem_singleton.1 hx]; exact hch
 have hr1 : rsP p.offices z = true := by
  unfold resB at hr
  exact List.all_eq_true.1 hr z hz
 refine ⟨⟨hf.1, hf.2.1⟩, fun h => ?_, fun h => ?_⟩
 ·have hnx : namedX z.1 = true := by
   unfold namedX
   obtain h | h : z.1.kind = 1 ∨ z.1.kind = 2 := by omega
   ·rw [h]; rfl
   ·rw [h]; rfl
  unfold nmP at hn
  rw [hnx, Bool.not_true, Bool.false_or, decide_eq_true_eq] at hn
  unfold rsP at hr1
  rw [hnx, if_pos rfl, decide_eq_true_eq] at hr1
  have := idxS_lt (l := p.offices) (s := z.1.name)
  omega
 ·have hk := hf.2.2
  unfold kindB at hk
  simp only [h, if_true, if_neg (show ¬ (4 : Int) = 1 by decide), if_neg (show ¬ (4 : Int) = 2 by decide), if_neg (show ¬ (4 : Int) = 3 by decide), Bool.and_eq_true, decide_eq_true_eq] at hk
  exact hk.2.1
theorem pplB_srt {l : List Int} (h : pplB l = true) : l.Pairwise (· < ·) := by
 unfold pplB at h
 have := (Go.Best.good_srt (no := fun n : Int => n) h).1
 exact this
end Go.Per
end
section
set_option maxRecDepth 4000
namespace Go.Sg
open Go.Rn Go.Proofs Go.Rec Go.RowKit Go.Pol Go.Per Go.Best
attribute [local irreducible] Go.Rn.RetsX Go.Rn.RunLN Go.Rn.AsyN Go.Rn.RunL Go.Rn.RunE Go.Rn.Asy Go.Rn.OpV Go.Rn.OpE Go.Rn.ExecE
theorem Permits_ok (p : Po) (N : Nat) (kind val : Int) (hs : List Lh) (who : List Int) (hv wv : Value) (w : World) (hF : FewP p) (hH : HoldP w N p) (hN : N ≤ w.heap.size) (hK : Row w 0 0 kindsC) (hc : checkP p = true)
  (hhv : IsL w Lh.cells 1 hv hs) (hHH : HoldH w hs) (hhl : hs.length ≤ 1000) (hwv : IsL w intC 1 wv who) (hwl : who.length ≤ 100000) :
  Rets Tryz.prog 89 [poV p, .int .i64 kind, .int .i64 val, hv, wv] w fun r w' => (∃ (b : Bool) (e : Int), r = .tuple #[.bool b, .int .i64 e] ∧ (b && decide (e = 0)) = permB p kind val (hs.map Lh.l) who) ∧ Ext w w' := by
 obtain ⟨d1, c1, rfl⟩ := isSl_slice hhv
 obtain ⟨d2, c2, rfl⟩ := isSl_slice hwv
 have hFo := hF.o
 have hFk := hF.k
 unfold permB
 refine en Tryz.func89 58 fun hf_ => ?_
 refine g1 (cs := p.cells) fun B5 w1 E1 G5 Z5 => ?_
 refine gc (pcheck_ok p N w1 hF (hH.up E1) (by have := E1.size; omega) (hK.up E1)) ?_
 rintro _ w2 ⟨⟨e, rfl, he⟩, E2⟩
 have h0 := he.2 hc
 subst h0
 have X2 : Ext w w2 := E1.trans E2
 have Y5 := Z5.up E2
 by_cases a1 : 0 ≤ kind
 case neg =>
  rw [decide_eq_false a1]
  refine rt ?_
  exact ⟨⟨_, _, rfl, rfl⟩, X2⟩
 by_cases a2 : kind < (p.kinds.length : Int)
 case neg =>
  rw [decide_eq_true a1, decide_eq_false a2]
  refine rt ?_
  exact ⟨⟨_, _, rfl, rfl⟩, X2⟩
 by_cases a3 : 0 ≤ val
 case neg =>
  rw [decide_eq_true a1, decide_eq_true a2, decide_eq_false a3]
  refine rt ?_
  exact ⟨⟨_, _, rfl, rfl⟩, X2⟩
 by_cases a4 : val ≤ 1099511627776
 case neg =>
  rw [decide_eq_true a1, decide_eq_true a2, decide_eq_true a3, decide_eq_false a4]
  refine rt ?_
  exact ⟨⟨_, _, rfl, rfl⟩, X2⟩
 rw [decide_eq_true a1, decide_eq_true a2, decide_eq_true a3, decide_eq_true a4]
 simp only [Bool.true_and]
 refine g ?_
 refine gc (rightH_ok hs _ p.offices.length w2 (by omega) (by omega) (hhv.up X2) (hHH.up X2)) ?_
 rintro _ w3 ⟨rfl, E3⟩
 have X3 : Ext w w3 := X2.trans E3
 have Y53 := Y5.up E3
 cases hR : rightH (hs.map Lh.l) p.offices.length with
 | false =>
  refine rt ?_
  exact ⟨⟨_, _, rfl, rfl⟩, X3⟩
 | true =>
  refine g ?_
  refine gc (ppl_ok who _ w3 hwl (hwv.up X3)) ?_
  rintro _ _ ⟨rfl, rfl⟩
  cases hP : pplB who with
  | false =>
   refine rt ?_
   exact ⟨⟨_, _, rfl, rfl⟩, X3⟩
  | true =>
   simp only [Bool.true_and]
   have hQ : HoldQ w3 hs (.slice d1 hs.length c1) who (.slice d2 who.length c2) := ⟨hhv.up X3, hHH.up X3, hwv.up X3, pplB_srt hP, hwl, hhl, fun x hx => by
    unfold rightH at hR
    simp only [Bool.and_eq_true, List.all_eq_true] at hR
    exact hR.1 x.l (List.mem_map.2 ⟨x, hx, rfl⟩)⟩
   have hol : hs.length = p.offices.length := by
    unfold rightH at hR
    simp only [Bool.and_eq_true, decide_eq_true_eq, List.length_map] at hR
    exact hR.2
   have hlen : p.rules.length = p.kinds.length := by
    unfold checkP okP formB form1 at hc
    simp only [Bool.and_eq_true, decide_eq_true_eq] at hc
    exact hc.1.2.2.1.2.1
   obtain ⟨kn, rfl⟩ : ∃ kn : Nat, kind = kn := ⟨kind.toNat, by omega⟩
   have hkl : kn < p.rules.length := by omega
   have hru : p.rules[kn]? = some p.rules[kn] := List.getElem?_eq_getElem hkl
   rw [ruleF_at hru]
   have hrm := List.getElem_mem hkl
   generalize p.rules[kn] = ru at hru hrm ⊢
   obtain ⟨b, o, cap, hve, hr, hcp⟩ := isL_held (hH.r.up X3) hkl
   have hrow := (flat_row encRu hr hru).drop 3
   replace hrow : Row w3 b (o + kn * 8 + 3) ru.ex.cells := hrow
   have hx : ru.ex ∈ exprsP p := List.mem_append_left _ (List.mem_map.2 ⟨ru, hrm, rfl⟩)
   have hfu := fulfil_ok val hs who (.slice d1 hs.length c1) (.slice d2 who.length c2) 40 ru.ex 1 (hF.e ru hrm) (by decide) (by rw [hol]; exact ok1_of hc hx) N w3 ((hH.re ru hrm).up X3) hQ
   generalize fulF val (hs.map Lh.l) who 40 ru.ex = fx at hfu ⊢
   replace Y53 : Blk w3 B5 [.string p.name, .slice p.ku p.kinds.length p.kc, .slice p.ou p.offices.length p.oc, .slice (some ⟨b, o, none⟩) p.rules.length cap, .int .i64 p.change.kind, .int .i64 p.change.n, .int .i64 p.change.no, .string p.change.name, .slice p.change.u p.change.l.length p.change.c, .int .i64 p.mode] 80 := by rw [← hve]; exact Y53
   refine g ?_
   refine gc hfu ?_
   rintro _ w4 ⟨rfl, E4⟩
   cases fx
   all_goals
    refine rt ?_
    exact ⟨⟨_, _, rfl, rfl⟩, X3.trans E4⟩
end Go.Sg
end
