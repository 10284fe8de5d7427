/- Parts of this project: Jud5, Jud6, Jud7. -/
import Derived.Test.YtlchncheagigpaaGreatDoorTu16
set_option maxHeartbeats 32000000
set_option linter.unusedSimpArgs false
set_option linter.unusedVariables false
set_option linter.unusedSectionVars false
section
set_option maxRecDepth 4000
namespace Go.Jud
open Go.Rn Go.Rec Go.Off Go.Per Go.Pol
def hdOf (h : Hold) : Hd := ⟨h.person, h.weight⟩
theorem flat_hold : ∀ l : List Hold, flat Hold.cells l = flat Hd.cells (l.map hdOf)
 | [] => rfl
 | x :: l => by rw [flat_cons, List.map_cons, flat_cons, flat_hold l]; rfl
def HoldU (w : World) (acc : List Lh) (u : Value) : Prop := ∀ x ∈ acc, IsL w Hd.cells 2 (.slice x.u x.l.length x.c) x.l ∧ x.l.length ≤ 100000 ∧ ∀ k, x.l ≠ [] → (Value.slice x.u x.l.length x.c).ownBlock = some k → k < w.heap.size ∧ u.ownBlock ≠ some k
theorem polOk_size {p : Po} (h : checkP p = true) : p.offices.length ≤ 32 := by
 unfold checkP okP sizesB size1 at h
 simp only [Bool.and_eq_true, decide_eq_true_eq] at h
 omega
end Go.Jud
namespace Go.Sg
open Go.Rn Go.Proofs Go.Rec Go.RowKit Go.Jud Go.Doc Go.Pol Go.Apv Go.Best Go.Und Go.Off Go.Per
attribute [local irreducible] Go.Rn.RetsX Go.Rn.RunLN Go.Rn.AsyN Go.Rn.RunL Go.Rn.RunE Go.Rn.Asy Go.Rn.OpV Go.Rn.OpE Go.Rn.ExecE
instance iJud5_1 (n : Int) : Pf 108 [.int .i64 n] (.bool (argO n)) := ⟨fun w => oisOffice_ok n w⟩
instance iJud5_2 (n : Int) : Pf 107 [.int .i64 n] (.bool (argT n)) := ⟨fun w => oisTime_ok n w⟩
theorem jholders_ok (l : List Ap) (v : Value) (o t kn : Int) (w : World) (hv : LA w v l) (hl : l.length ≤ 100000) (hc : chkA l = 0) (ho : 0 ≤ o ∧ o < 32) (ht : 0 ≤ t ∧ t < 1099511627776) (hk : 0 ≤ kn ∧ kn < 1099511627776) :
  Rets Tryz.prog 88 [v, .int .i64 o, .int .i64 t, .int .i64 kn] w fun r w' => (∃ u, r = .tuple #[u, .int .i64 0] ∧ w'.ownsRow w.heap.size 206 2 u (hsL l o t kn).length (flat Hold.cells (hsL l o t kn))) ∧ Ext w w' := by
 have a1 : argO o = true := decide_eq_true ho
 have a2 : argT t = true := decide_eq_true ht
 have a3 : argT kn = true := decide_eq_true hk
 have he : hsE l o t kn = 0 := by unfold hsE; rw [if_pos hc, a1, a2, a3]; rfl
 have hV : hsL l o t kn = hsUpto l o t kn 64 := if_pos he
 rw [hV]
 refine en Tryz.func88 35 fun hf_ => ?_
 refine g ?_
 refine gc (ocheck_ok l v w hv (by omega)) ?_
 rintro _ w1 ⟨rfl, E1⟩
 rw [hc]
 refine g ?_
 refine gc (standing_ok l v t kn w1 (hv.up E1) (by omega)) ?_
 rintro _ w2 ⟨⟨R, rfl, hM⟩, E2⟩
 refine g ?_
 refine gc (holders_ok l o t kn hc R w2 hM) ?_
 rintro f w3 ⟨⟨F, hG, hF⟩, E3⟩
 have s1 := E1.size
 have s2 := E2.size
 have s3 := E3.size
 have hlen : ∀ ys : List Hold, ys = hsUpto l o t kn 64 → ys.length ≤ 100000 := fun ys h => by rw [h]; have := hsUpto_length l o t kn 64; omega
 refine g ?_
 refine gc (hcollect_ok _ f F w3 hG hF hlen) ?_
 rintro u w4 ⟨⟨ys, rfl, hO⟩, E4⟩
 refine rt ?_
 exact ⟨⟨u, rfl, ownsRow_base hO (by omega)⟩, xt⟩
theorem range_succ_map {α : Type} (f : Nat → α) (n : Nat) : (List.range (n + 1)).map f = (List.range n).map f ++ [f n] := by rw [List.range_succ, List.map_append]; rfl
theorem permitted_ok (c : Ct) (p : Po) (who : List Int) (wv : Value) (N : Nat) (w : World) (hR : HoldR w N c.r) (hC : OkC c) (hF : FewP p) (hP : HoldP w N p) (hc : checkP p = true) (hK : Row w 0 0 kindsC) (hw : IsL w intC 1 wv who) (hwl : who.length ≤ 100000) :
  Rets Tryz.prog 53 [ctV c, poV p, wv] w fun r w' => r = .bool (permP c p who) ∧ Ext w w' := by
 obtain ⟨dw, cw, rfl⟩ := isSl_slice hw
 have hol := polOk_size hc
 have hal := hR.al
 unfold permP holdersP
 generalize hfN : (fun n : Nat => (hsL c.r.ap (n : Int) c.at_ c.kn).map fun h => (⟨h.person, h.weight⟩ : Hd)) = fN
 have hfE : ∀ n : Nat, fN n = (hsL c.r.ap (n : Int) c.at_ c.kn).map hdOf := fun n => by rw [← hfN]; rfl
 refine en Tryz.func53 56 fun hf_ => ?_
 refine g1 (cs := c.cells) fun B3 w1 E1 G3 Z3 => ?_
 refine g1 (cs := p.cells) fun B4 w2 E2 G4 Z4 => ?_
 have X2 : Ext w w2 := E1.trans E2
 have Z32 := Z3.up E2
 have s2 := X2.size
 refine g ?_
 refine RunE.loop (ι := Nat × Value × List Lh) (fun s => [(16, .int .i64 (s.1 : Int)), (15, .int .i64 (p.offices.length : Int)), (7, s.2.1), (3, .pointer (some ⟨B3, 0, none⟩)), (4, .pointer (some ⟨B4, 0, none⟩)), (2, .slice dw who.length cw)])
  (fun s w' => s.1 ≤ p.offices.length ∧ s.2.2.length = s.1 ∧ s.2.2.map Lh.l = (List.range s.1).map fN ∧ w'.ownsRow w2.heap.size 173 1 s.2.1 s.1 (flat Lh.cells s.2.2) ∧ HoldU w' s.2.2 s.2.1 ∧ ExtB (fun k => w2.heap.size ≤ k) w2 w') (fun s => p.offices.length - s.1) (0, .slice none 0 0, []) sb_ ⟨Nat.zero_le _, rfl, rfl, World.ownsRow_nil _ _ _ _, fun x h => absurd h (by simp), ExtB.refl _ _⟩ ?_
 rintro ⟨i, u, acc⟩ w3 ⟨hi, hal', hmap, hO, hU, X3⟩ again
 simp only at hi hal' hmap hO hU again ⊢
 have hX3 : Ext w w3 := X2.write X3 (by intro k hk hlt; have hk : w2.heap.size ≤ k := hk; omega)
 have Z33 := Z32.ext X3 (by have := Z32.lt; omega)
 have Z43 := Z4.ext X3 (by have := Z4.lt; omega)
 by_cases hlt : i < p.offices.length
 ·have hR3 := hR.up hX3
  refine g ?_
  refine gc (jholders_ok c.r.ap _ (i : Int) c.at_ c.kn w3 hR3.ap (by omega) hC.r.a ⟨by omega, by omega⟩ hC.t hC.k) ?_
  rintro _ w4 ⟨⟨hv, rfl, hO4⟩, E4⟩
  have hh := isSl_own hO4
  obtain ⟨dh, ch, rfl⟩ := isSl_slice hh
  have hlh : (hsL c.r.ap (i : Int) c.at_ c.kn).length = (fN i).length := by rw [hfE, List.length_map]
  have hih : IsL w4 Hd.cells 2 (.slice dh (fN i).length ch) (fN i) := by
   show IsSl _ _ _ _ _
   rw [hfE, ← flat_hold, List.length_map]; exact hh
  have hgh : ∀ k, (Value.slice dh (fN i).length ch).ownBlock = some k → w3.heap.size ≤ k := fun k hk => ownsRow_ge hO4 (by rw [hlh]; exact hk)
  have hfl : (fN i).length ≤ 100000 := by
   rw [hfE, List.length_map]
   unfold hsL
   split
   ·have := hsUpto_length c.r.ap (i : Int) c.at_ c.kn 64; omega
   ·simp
  rw [hlh]
  clear hh hO4
  generalize hla : (⟨fN i, dh, ch⟩ : Lh) = lh
  have hlc : lh.cells = [.slice dh (fN i).length ch] := by subst hla; rfl
  have hll : lh.l = fN i := by subst hla; rfl
  refine g ?_
  have hO' := ownsRow_ext hO E4 (fun _ _ h => h)
  have s4 := E4.size
  have s3 := X3.size
  refine ap1 encLh lh hO' (ExtB.refl _ _) (by omega) (by omega) rfl rfl rfl rfl rfl rfl rfl rfl rfl (by rw [hlc]; rfl) (fun _ => rfl) rfl (fun _ => rfl) fun q1 y' w5 O5 E5 hown => ?_
  have s5 := E5.size
  refine g ?_
  refine RunE.weaken sb_ (again (i + 1, y', acc ++ [lh]) w5 (by simp only; omega) ⟨by simp only; omega, by simp [hal'], ?_, ?_, ?_, ?_⟩)
  ·simp only
   rw [range_succ_map, List.map_append, hmap]; simp [hll]
  ·simp only
   rw [flat_append, flat_one]; exact O5
  ·have hub : ∀ k, u.ownBlock = some k → k < w3.heap.size := fun k hk => isSl_ownlt hO hk
   intro x hx
   rcases List.mem_append.1 hx with hx | hx
   ·obtain ⟨q1, q2, q3⟩ := hU x hx
    exact ⟨isL_ext (q1.up E4) E5 (fun hne j hj hS => (q3 j hne hj).2 hS), q2, fun k hne hk => ⟨by have := (q3 k hne hk).1; omega, fun h => (q3 k hne hk).2 (hown k h (by have := (q3 k hne hk).1; omega))⟩⟩
   ·rw [List.mem_singleton] at hx
    subst hx
    subst hla
    exact ⟨isL_ext hih E5 (fun hne j hj hS => by have := hgh j hj; have := hub j hS; omega), hfl, fun k hne hk => by
     have h1 := isL_own hih (by decide) hne hk
     have h2 := hgh k hk
     exact ⟨by omega, fun h => by have := hub k (hown k h h1); omega⟩⟩
  ·exact (X3.trans (ExtB.of_ext E4)).trans (E5.mono fun k _ hk => ownsRow_ge hO hk)
 ·obtain rfl : i = p.offices.length := by omega
  have Z43' : Blk w3 B4 p.cells 80 := Z43
  have hHH : HoldH w3 acc := ⟨fun x hx => ⟨(hU x hx).1, (hU x hx).2.1⟩⟩
  have hIL : IsL w3 Lh.cells 1 u acc := by
   show IsSl _ _ _ _ _
   rw [hal']; exact isSl_own hO
  rw [← hmap]
  have hN3 : N ≤ w3.heap.size := Nat.le_trans hR.hv.n hX3.size
  refine g ?_
  refine gc (Permits_ok p N c.d.d.kind c.d.d.value acc who u _ w3 hF (hP.up hX3) hN3 (hK.up hX3) hc hIL hHH (by omega) (hw.up hX3) hwl) ?_
  rintro _ w4 ⟨⟨b, e, rfl, hbe⟩, E4⟩
  rw [← hbe]
  cases b with
  | false =>
   refine rt ?_
   exact ⟨rfl, hX3.trans E4⟩
  | true =>
   by_cases he : e = 0
   ·rw [decide_eq_true he]
    refine rt ?_
    exact ⟨rfl, hX3.trans E4⟩
   ·rw [decide_eq_false he]
    refine rt ?_
    exact ⟨rfl, hX3.trans E4⟩
end Go.Sg
end
section
set_option maxRecDepth 4000
namespace Go.Jud
open Go.Rn Go.Rec Go.Doc
theorem atL_has {l : List Dc} : ∀ (n : Nat) (i : Nat) (d : Dc), i < n → l[i]? = some d → (getM d.no (atL l n)).isSome = true
 | 0, i, d, h, _ => by omega
 | n + 1, i, d, h, hd => by
  unfold atL
  by_cases hin : i = n
  ·subst hin
   rw [hd]
   simp only
   rw [getM_set, if_pos rfl]; rfl
  ·have ih := atL_has n i d (by omega) hd
   split
   ·rw [getM_set]
    split
    ·rfl
    ·exact ih
   ·exact ih
theorem why_err {r : Rg} {sg : List Int} {t : Int} {d : Dk} (h : d ∈ r.ds) : (whyD (docs r) sg d.d.no t).2.2 = 0 := by
 obtain ⟨i, hi⟩ := List.getElem?_of_mem h
 have hd : (docs r)[i]? = some d.d := by rw [List.getElem?_map, hi]; rfl
 have hl : i < (docs r).length := (List.getElem?_eq_some_iff.1 hd).1
 have := atL_has (docs r).length i d.d hl hd
 unfold whyD
 cases hg : getM d.d.no (atL (docs r) (docs r).length) with
 | none => rw [hg] at this; cases this
 | some k => rfl
theorem any_mem (l : List Int) (n : Int) : (l.any fun x => decide (x = n)) = decide (n ∈ l) := by
 rw [Bool.eq_iff_iff]; simp
end Go.Jud
namespace Go.Sg
open Go.Rn Go.Proofs Go.Rec Go.RowKit Go.Jud Go.Doc
attribute [local irreducible] Go.Rn.RetsX Go.Rn.RunLN Go.Rn.AsyN Go.Rn.RunL Go.Rn.RunE Go.Rn.Asy Go.Rn.OpV Go.Rn.OpE Go.Rn.ExecE
theorem indexI_ok (l : List Int) (n : Int) (v : Value) (w : World) (hl : l.length ≤ 100000) (hv : IsL w intC 1 v l) : Rets Tryz.prog 84 [v, .int .i64 n] w fun r w' => r = .int .i64 (idxF (fun x => decide (x = n)) l) ∧ w = w' := by
 obtain ⟨d, cp, rfl⟩ := isSl_slice hv
 refine en Tryz.func84 19 fun hf_ => ?_
 refine g ?_
 refine RunE.loop (ι := Nat) (fun i => [(0, .slice d l.length cp), (1, .int .i64 n), (7, .int .i64 (l.length : Int)), (8, .int .i64 (i : Int))]) (fun i w' => i ≤ l.length ∧ idxF (fun x => decide (x = n)) l = idxFrom (fun x => decide (x = n)) (i : Int) (l.drop i) ∧ w = w') (fun i => l.length - i) 0 sb_ ⟨Nat.zero_le _, by simp [idxF], rfl⟩ ?_
 rintro i _ ⟨hi, h1, rfl⟩ again
 by_cases hlt : i < l.length
 ·obtain ⟨b, o, cap, hve, hr, -⟩ := isL_held hv hlt
  obtain ⟨x, hx⟩ : ∃ x, l[i]? = some x := ⟨_, List.getElem?_eq_getElem hlt⟩
  have hrx := flat_row encI hr hx
  cases hve
  have hd : l.drop i = x :: l.drop (i + 1) := by
   obtain ⟨hi, e⟩ := List.getElem?_eq_some_iff.1 hx
   rw [List.drop_eq_getElem_cons hi, e]
  rw [hd] at h1
  simp only [idxFrom] at h1
  by_cases hn : n = x
  ·rw [if_pos (by simp [hn])] at h1
   refine rt ?_
   exact ⟨by rw [h1]; rfl, rfl⟩
  ·rw [if_neg (by simp; omega)] at h1
   refine g ?_
   exact RunE.weaken sb_ (again (i + 1) w (by omega) ⟨by omega, by rw [h1]; simp, rfl⟩)
 ·rw [List.drop_eq_nil_of_le (by omega)] at h1
  refine rt ?_
  exact ⟨by rw [h1]; rfl, rfl⟩
theorem conI_ok (l : List Int) (n : Int) (v : Value) (w : World) (hl : l.length ≤ 100000) (hv : IsL w intC 1 v l) : Rets Tryz.prog 50 [v, .int .i64 n] w fun r w' => r = .bool (decide (n ∈ l)) ∧ w = w' := by
 obtain ⟨d, cp, rfl⟩ := isSl_slice hv
 refine en Tryz.func50 9 fun hf_ => ?_
 refine gc (indexI_ok l n _ w hl hv) ?_
 rintro _ _ ⟨rfl, rfl⟩
 have hr := idxF_any (fun x => decide (x = n)) l
 rw [any_mem] at hr
 refine rt ?_
 exact ⟨by rw [← hr]; rfl, rfl⟩
theorem lacks1_ok (l : List Int) (n : Int) (v : Value) (b : Nat) (w : World) (hl : l.length ≤ 100000) (hv : IsL w intC 1 v l) (Y : Blk w b [v] 31) :
  Rets Tryz.prog 49 [.int .i64 n, .pointer (some ⟨b, 0, none⟩)] w fun r w' => r = .bool (!decide (n ∈ l)) ∧ Ext w w' := by
 obtain ⟨d, cp, rfl⟩ := isSl_slice hv
 refine en Tryz.func49 8 fun hf_ => ?_
 refine g ?_
 refine gc (conI_ok l n _ w hl hv) ?_
 rintro _ _ ⟨rfl, rfl⟩
 refine rt ?_
 exact ⟨rfl, ExtB.refl _ _⟩
def OkS (c : Ct) (sg : List Int) : Prop := okArg (docs c.r) sg c.at_ = true ∧ sg.length = c.r.ds.length
theorem okS_of {c : Ct} {sg : List Int} (hC : OkC c) (h : okArg (docs c.r) sg 0 = true) : OkS c sg := by
 unfold okArg at h
 rw [Bool.and_eq_true] at h
 refine ⟨by unfold okArg okTime; rw [h.1, decide_eq_true hC.t]; rfl, ?_⟩
 have := h.1
 unfold sigsOk at this
 rw [Bool.and_eq_true, decide_eq_true_eq, List.length_map] at this
 exact this.1
theorem doc_right {c : Ct} (hC : OkC c) {d : Dk} (hd : d ∈ c.r.ds) : numD d.d ∧ incL 1048577 d.d.parties = true ∧ incL d.d.no d.d.revokes = true ∧ incL d.d.no d.d.needs = true ∧ d.d.revokes.length ≤ 16 :=
 right_len ((chkDoc_in hC.r.k).2.1 d.d (List.mem_map.2 ⟨d, hd, rfl⟩)).1
theorem jlacks_ok (c : Ct) (sg : List Int) (u : Value) (N : Nat) (w : World) (hR : HoldR w N c.r) (hC : OkC c) (hS : OkS c sg) (hu : IsL w intC 1 u sg) :
  Rets Tryz.prog 19 [ctV c, u] w fun r w' => r = .bool (lacksP c sg) ∧ Ext w w' := by
 obtain ⟨du, cq, rfl⟩ := isSl_slice hu
 have hkl := hR.kl
 have hsl := hS.2
 refine en Tryz.func19 24 fun hf_ => ?_
 refine g1 (cs := c.cells) fun B2 w1 E1 G1 Z1 => ?_
 have hR1 := hR.up E1
 refine g ?_
 refine gc (inforce_ok c.r.ds _ _ sg c.at_ w1 (by omega) (by omega) hC.r.k hR1.ds (hu.up E1) hR1.hd) ?_
 rintro _ w2 ⟨⟨q, rfl, hq⟩, E2⟩
 have hok : okArg (c.r.ds.map Dk.d) sg c.at_ = true := hS.1
 rw [if_pos hok]
 replace hq := hq hok
 have hfl : (forceD (docs c.r) sg c.at_).length ≤ 8 := by
  unfold forceD
  rw [List.length_map]
  have := List.length_filter_le (fun i => decide ((stateD (docs c.r) sg c.at_ i).1 = 0)) (List.range (docs c.r).length)
  rw [List.length_range] at this
  have hdl : (docs c.r).length = c.r.ds.length := List.length_map _
  omega
 unfold lacksP
 have hq' : IsL w2 intC 1 q (forceD (docs c.r) sg c.at_) := hq
 generalize forceD (docs c.r) sg c.at_ = fl at hq' hfl ⊢
 clear hq
 obtain ⟨dq, cq', rfl⟩ := isSl_slice hq'
 refine g1 (cs := [.slice dq fl.length cq']) fun B5 w3 E3 G3 Z3 => ?_
 have X3 : Ext w w3 := (E1.trans E2).trans E3
 have hn := (doc_right hC hC.m).2.2.2.1
 have hnl : c.d.d.needs.length ≤ 16 := by
  unfold incL at hn
  rw [Bool.and_eq_true, decide_eq_true_eq] at hn
  exact hn.2
 have Z13 := Z1.up (E2.trans E3)
 refine g ?_
 refine gc (icon_ok c.d.d.needs (fun n => !decide (n ∈ fl)) _ (.func (.func 49) #[] #[.pointer (some ⟨B5, 0, none⟩)]) w3 (by omega) ((hR.up X3).hd c.d hC.m).n fun x hx w' e =>
  RetsX.v (fi := []) (args := [.int .i64 x]) (ca := [.pointer (some ⟨B5, 0, none⟩)]) (lacks1_ok fl x _ B5 w' (by omega) (hq'.up (E3.trans e)) (Z3.up e))) ?_
 rintro _ w4 ⟨rfl, E4⟩
 refine rt ?_
 exact ⟨rfl, X3.trans E4⟩
theorem revoked1_ok (c : Ct) (sg : List Int) (u : Value) (x : Dk) (N b1 b2 : Nat) (w : World) (hx : x ∈ c.r.ds) (hR : HoldR w N c.r) (hC : OkC c) (hS : OkS c sg) (hu : IsL w intC 1 u sg) (Y1 : Blk w b1 c.cells 60) (Y2 : Blk w b2 [u] 31) :
  Rets Tryz.prog 81 [dkV x, .pointer (some ⟨b1, 0, none⟩), .pointer (some ⟨b2, 0, none⟩)] w fun r w' => r = .bool (revokesP c sg x.d) ∧ Ext w w' := by
 obtain ⟨du, cq, rfl⟩ := isSl_slice hu
 have hkl := hR.kl
 have hsl := hS.2
 unfold revokesP
 refine en Tryz.func81 36 fun hf_ => ?_
 refine g1 (cs := x.cells) fun B3 w1 E1 G1 Z1 => ?_
 have hR1 := hR.up E1
 have hrl := (doc_right hC hx).2.2.2.2
 refine g ?_
 refine gc (conI_ok x.d.revokes c.d.d.no _ w1 (by omega) (hR1.hd x hx).r) ?_
 rintro _ _ ⟨rfl, rfl⟩
 cases hm : decide (c.d.d.no ∈ x.d.revokes) with
 | false =>
  refine rt ?_
  exact ⟨rfl, E1⟩
 | true =>
  have hwe := why_err (sg := sg) (t := c.at_) hx
  refine g ?_
  refine gc (why_ok c.r.ds _ _ sg x.d.no c.at_ w1 (by omega) (by omega) hC.r.k hS.1 hR1.ds (hu.up E1) hR1.hd) ?_
  rintro _ w2 ⟨rfl, E2⟩
  have hwe' : (whyD (c.r.ds.map Dk.d) sg x.d.no c.at_).2.2 = 0 := hwe
  rw [hwe']
  have hdocs : docs c.r = c.r.ds.map Dk.d := rfl
  rw [hdocs]
  generalize (whyD (c.r.ds.map Dk.d) sg x.d.no c.at_).1 = st
  generalize (whyD (c.r.ds.map Dk.d) sg x.d.no c.at_).2.1 = st2
  have X2 : Ext w w2 := E1.trans E2
  by_cases h1 : st = 1
  ·refine rt ?_
   exact ⟨by rw [decide_eq_false (p := st ≠ 1) (fun h => h h1)]; rfl, X2⟩
  ·rw [decide_eq_true (p := st ≠ 1) h1]
   by_cases h4 : st = 4
   ·refine rt ?_
    exact ⟨by rw [decide_eq_false (p := st ≠ 4) (fun h => h h4)]; rfl, X2⟩
   ·refine rt ?_
    exact ⟨by rw [decide_eq_true (p := st ≠ 4) h4]; rfl, X2⟩
theorem any_docs (r : Rg) (p : Dc → Bool) : (docs r).any p = r.ds.any fun x => p x.d := by
 rw [List.any_map]; rfl
theorem jrevoked_ok (c : Ct) (sg : List Int) (u : Value) (N : Nat) (w : World) (hR : HoldR w N c.r) (hC : OkC c) (hS : OkS c sg) (hu : IsL w intC 1 u sg) :
  Rets Tryz.prog 47 [ctV c, u] w fun r w' => r = .bool (revokedP c sg) ∧ Ext w w' := by
 obtain ⟨du, cq, rfl⟩ := isSl_slice hu
 have hkl := hR.kl
 unfold revokedP
 rw [any_docs]
 refine en Tryz.func47 10 fun hf_ => ?_
 refine g1 (cs := c.cells) fun B2 w1 E1 G1 Z1 => ?_
 refine g1 (cs := [.slice du sg.length cq]) fun B3 w2 E2 G2 Z2 => ?_
 have X2 : Ext w w2 := E1.trans E2
 have Z12 := Z1.up E2
 refine g ?_
 refine gc (jkcon_ok c.r.ds (fun x => revokesP c sg x.d) _ (.func (.func 81) #[] #[.pointer (some ⟨B2, 0, none⟩), .pointer (some ⟨B3, 0, none⟩)]) w2 (by omega) (hR.up X2).ds fun x hx w' e =>
  RetsX.v (fi := []) (args := [dkV x]) (ca := [.pointer (some ⟨B2, 0, none⟩), .pointer (some ⟨B3, 0, none⟩)]) (revoked1_ok c sg _ x N B2 B3 w' hx (hR.up (X2.trans e)) hC hS (hu.up (X2.trans e)) (Z12.up e) (Z2.up e))) ?_
 rintro _ w3 ⟨rfl, E3⟩
 refine rt ?_
 exact ⟨rfl, X2.trans E3⟩
theorem closed1_ok (c : Ct) (x : Dk) (b : Nat) (w : World) (Y : Blk w b c.cells 60) : Rets Tryz.prog 46 [dkV x, .pointer (some ⟨b, 0, none⟩)] w fun r w' => r = .bool (decide (x.d.no = c.d.d.no)) ∧ Ext w w' := by
 refine en Tryz.func46 10 fun hf_ => ?_
 refine g1 (cs := x.cells) fun B2 w1 E1 G1 Z1 => ?_
 by_cases h : x.d.no = c.d.d.no
 ·rw [decide_eq_true h]
  refine rt ?_
  exact ⟨rfl, xt⟩
 ·rw [decide_eq_false h]
  refine rt ?_
  exact ⟨rfl, xt⟩
theorem jclosed_ok (c : Ct) (sg : List Int) (u : Value) (N : Nat) (w : World) (hR : HoldR w N c.r) (hC : OkC c) (hS : OkS c sg) (hu : IsL w intC 1 u sg) :
  Rets Tryz.prog 17 [ctV c, u] w fun r w' => r = .bool (closedP c sg) ∧ Ext w w' := by
 have hkl := hR.kl
 have hsl := hS.2
 rcases idxF_find (fun d : Dk => decide (d.d.no = c.d.d.no)) c.r.ds with ⟨h1, -⟩ | ⟨k, d, h1, h2, h3, h4, h5⟩
 ·have := List.find?_eq_none.1 h1 c.d hC.m
  simp at this
 have hk := (List.getElem?_eq_some_iff.1 h2).1
 have hks : k < sg.length := by omega
 obtain ⟨z, hz⟩ : ∃ z, sg[k]? = some z := ⟨_, List.getElem?_eq_getElem hks⟩
 have hsp : signedP c sg = z := by unfold signedP; rw [h5, hz]; rfl
 obtain ⟨b, o, cap, rfl, hr, -⟩ := isL_held hu hks
 have hrz := flat_row encI hr hz
 unfold closedP
 rw [hsp]
 refine en Tryz.func17 46 fun hf_ => ?_
 refine g1 (cs := c.cells) fun B2 w1 E1 G1 Z1 => ?_
 refine g ?_
 refine gc (jkidx_ok c.r.ds (fun d => decide (d.d.no = c.d.d.no)) _ (.func (.func 46) #[] #[.pointer (some ⟨B2, 0, none⟩)]) w1 (by omega) (hR.up E1).ds fun x hx w' e => RetsX.v (fi := []) (args := [dkV x]) (ca := [.pointer (some ⟨B2, 0, none⟩)]) (closed1_ok c x B2 w' (Z1.up e))) ?_
 rintro _ w2 ⟨rfl, E2⟩
 rw [h4]
 have X2 : Ext w w2 := E1.trans E2
 have Z12 := Z1.up E2
 have cR := fun w' (e : Ext w w') => jrevoked_ok c sg _ N w' (hR.up e) hC hS (hu.up e)
 generalize revokedP c sg = rv at cR
 refine g ?_
 by_cases a1 : c.at_ < c.d.d.at_
 ·refine RunE.draw (fun _ => False) mix' ?_
  intro wd Xd
  refine ga ?_
  refine Asy.end_ (by decide +kernel) ?_
  intro we Xe
  refine rt ?_
  exact ⟨by rw [decide_eq_true a1]; rfl, X2.trans (Xd.trans Xe)⟩
 rw [decide_eq_false a1]
 by_cases a2 : c.d.d.until_ ≤ c.at_
 ·refine RunE.draw (fun _ => False) mix' ?_
  intro wd Xd
  refine ga ?_
  refine Asy.end_ (by decide +kernel) ?_
  intro we Xe
  refine rt ?_
  exact ⟨by rw [decide_eq_true a2]; rfl, X2.trans (Xd.trans Xe)⟩
 rw [decide_eq_false a2]
 by_cases a3 : 0 ≤ z
 ·rw [decide_eq_true a3]
  by_cases a4 : z ≤ c.at_
  ·refine RunE.draw (fun _ => False) mix' ?_
   intro wd Xd
   refine ga ?_
   refine Asy.end_ (by decide +kernel) ?_
   intro we Xe
   refine rt ?_
   exact ⟨by rw [decide_eq_true a4]; rfl, X2.trans (Xd.trans Xe)⟩
  ·rw [decide_eq_false a4]
   refine RunE.draw (fun _ => False) mix' ?_
   intro wd Xd
   refine ga ?_
   refine Asy.callN rfl rfl rfl (fun w' e => cR w' (X2.trans (Xd.trans e))) ?_
   cases rv
   all_goals
    refine ga ?_
    refine Asy.end_ (by decide +kernel) ?_
    intro we Xe
    refine rt ?_
    exact ⟨rfl, X2.trans (Xd.trans Xe)⟩
 ·rw [decide_eq_false a3]
  refine RunE.draw (fun _ => False) mix' ?_
  intro wd Xd
  refine ga ?_
  refine Asy.callN rfl rfl rfl (fun w' e => cR w' (X2.trans (Xd.trans e))) ?_
  cases rv
  all_goals
   refine ga ?_
   refine Asy.end_ (by decide +kernel) ?_
   intro we Xe
   refine rt ?_
   exact ⟨rfl, X2.trans (Xd.trans Xe)⟩
end Go.Sg
end
section
set_option maxRecDepth 4000
namespace Go.Jud
open Go.Rn Go.Rec Go.Pol Go.Und
theorem pol_hold {c : Ct} {N : Nat} {w : World} (hR : HoldR w N c.r) {no : Int} {x : Vs} (h : polP c.r.vs no = some x) : x ∈ c.r.vs ∧ FewP x.pol ∧ HoldP w N x.pol := by
 have hm := List.mem_of_find?_eq_some h
 exact ⟨hm, hR.hv.few x hm, hR.hv.hold x hm⟩
theorem pol_check {c : Ct} (hC : OkC c) {no : Int} {x : Vs} (h : polP c.r.vs no = some x) : checkP x.pol = true :=
 (goodV_mem (ckAll_in hC.r.v).2 x (List.mem_of_find?_eq_some h)).1
theorem judges_pol {c : Ct} (hC : OkC c) {no : Int} (h : no ∈ judgesP c) : ∃ x, polP c.r.vs no = some x := by
 unfold judgesP nosF at h
 have h1 := (srtI_perm _).mem_iff.1 h
 obtain ⟨x, hx, rfl⟩ := List.mem_map.1 h1
 have hx2 : x ∈ metF c.d.d.at_ c.at_ c.kn c.r.vs := by
  unfold judP at hx
  split at hx
  ·split at hx
   ·exact List.mem_of_mem_take hx
   ·cases hx
  ·split at hx
   ·exact List.mem_of_mem_drop hx
   ·exact hx
 have hxl : x ∈ c.r.vs := met_mem (metF_inv hC.r.v c.d.d.at_ c.kn) (t := c.at_) (ks := ksF c.d.d.at_ c.kn c.r.vs) hx2
 have : (polP c.r.vs x.no).isSome = true := by
  unfold polP
  rw [List.find?_isSome]
  exact ⟨x, hxl, by simp⟩
 exact Option.isSome_iff_exists.1 this
theorem judges_len (c : Ct) : (judgesP c).length ≤ c.r.vs.length := by
 unfold judgesP nosF
 rw [srtI_len, List.length_map]
 refine Nat.le_trans ?_ (metF_len c.d.d.at_ c.at_ c.kn c.r.vs)
 unfold judP
 split
 ·split
  ·rw [List.length_take]; omega
  ·simp
 ·split
  ·rw [List.length_drop]; omega
  ·exact Nat.le_refl _
theorem answ_eq {c : Ct} {no : Int} {x : Vs} (h : polP c.r.vs no = some x) : answP c no = permP c x.pol (peopleP c x.pol) := by unfold answP; rw [h]
end Go.Jud
namespace Go.Sg
open Go.Rn Go.Proofs Go.Rec Go.RowKit Go.Jud Go.Doc Go.Pol Go.Apv Go.Best Go.Und Go.Off Go.Per
attribute [local irreducible] Go.Rn.RetsX Go.Rn.RunLN Go.Rn.AsyN Go.Rn.RunL Go.Rn.RunE Go.Rn.Asy Go.Rn.OpV Go.Rn.OpE Go.Rn.ExecE
abbrev vdC (st bu : Int) (q r : Value) : List Value := [.int .i64 st, .int .i64 bu, q, r]
theorem mode_zero {c : Ct} (hC : OkC c) : (modeP c = 0 ∧ judgesP c = []) ∨ (1 ≤ modeP c ∧ modeP c ≤ 4) := by
 unfold modeP judgesP nosF
 by_cases h : metF c.d.d.at_ c.at_ c.kn c.r.vs = []
 ·left
  rw [h]
  exact ⟨rfl, List.length_eq_zero_iff.1 (by rw [srtI_len]; rfl)⟩
 ·right
  obtain ⟨x, r, -, -, h1, h2, h3⟩ := modeF_ok hC.r.v h
  rw [h1]; exact ⟨h2, h3⟩
theorem take_map {α β : Type} (f : α → β) {l : List α} {i : Nat} {x : α} (hx : l[i]? = some x) : (l.take (i + 1)).map f = (l.take i).map f ++ [f x] := by
 rw [List.take_add_one, hx, List.map_append]; rfl
theorem ask_ok (c : Ct) (st bu : Int) (bv N : Nat) (wN w : World) (E : Ext wN w) (hR : HoldR wN N c.r) (hC : OkC c) (hK : Row wN 0 0 kindsC) (hle : c.d.d.at_ ≤ c.at_) (Y : Blk w bv (vdC st bu (.slice none 0 0) (.slice none 0 0)) 34) (hbv : wN.heap.size ≤ bv) :
  Rets Tryz.prog 21 [ctV c, .pointer (some ⟨bv, 0, none⟩)] w fun r w' => r = .bool (askP c) ∧ (∃ (dq : Option Addr) (cq : Nat) (dr : Option Addr) (nr cr : Nat), Blk w' bv (vdC st bu (.slice dq (judgesP c).length cq) (.slice dr nr cr)) 34 ∧ IsL w' intC 1 (.slice dq (judgesP c).length cq) (judgesP c) ∧ ∀ k, (Value.slice dq (judgesP c).length cq).ownBlock = some k → w.heap.size ≤ k) ∧ ExtB (fun k => k = bv) w w' := by
 have hnum := (doc_right hC hC.m).1
 obtain ⟨n1, n2, n3, n4, -⟩ := hnum
 obtain ⟨ht0, ht1⟩ := hC.t
 obtain ⟨hk0, hk1⟩ := hC.k
 have hvl := hR.vl
 have hjl := judges_len c
 have lbv := Y.lt
 have sE := E.size
 refine en Tryz.func21 88 fun hf_ => ?_
 refine g1 (cs := c.cells) fun B2 w1 E1 G1 Z1 => ?_
 have hR1 := hR.up (E.trans E1)
 refine g ?_
 refine gc (Judges_ok c.r.vs _ c.d.d.at_ c.at_ c.kn N w1 (by omega) hR1.vs hR1.hv (hK.up (E.trans E1)) hC.r.v ⟨n3, by omega⟩ ⟨ht0, by omega⟩ ⟨hk0, by omega⟩ hle) ?_
 rintro _ w2 ⟨⟨q, rfl, hq, hqo⟩, E2⟩
 have hq' : IsL w2 intC 1 q (judgesP c) := hq
 clear hq
 have hmz := mode_zero hC
 have hjp : ∀ no ∈ judgesP c, ∃ x, polP c.r.vs no = some x := fun no h => judges_pol hC h
 have hask : askP c = if modeP c = 0 then false else decB (modeP c) ((judgesP c).map (answP c)) := rfl
 rw [hask]
 have hmd : modeF (metF c.d.d.at_ c.at_ c.kn c.r.vs) = modeP c := rfl
 rw [hmd]
 generalize modeP c = md at hmz
 generalize judgesP c = nos at hq' hmz hjl hjp ⊢
 obtain ⟨dq, cq, rfl⟩ := isSl_slice hq'
 have s1 := E1.size
 have s2 := E2.size
 have E12 : Ext wN w2 := (E.trans E1).trans E2
 have l1 := Z1.lt
 have Z12 := Z1.up E2
 have Y2 := Y.up (E1.trans E2)
 refine g ?_
 refine rangeL hq' encI 31 32 33 (fun a : Value => [(5, .slice dq nos.length cq), (6, .int .i64 md), (8, a), (2, .pointer (some ⟨B2, 0, none⟩)), (1, .pointer (some ⟨bv, 0, none⟩))])
  (fun i a u => (∃ (dr : Option Addr) (cr : Nat) (who : List Int), Blk u bv (vdC st bu (.slice none 0 0) (.slice dr who.length cr)) 34 ∧ OwnI u w2.heap.size (.slice dr who.length cr) who ∧ who.length ≤ i * 24 ∧ ∀ k, (Value.slice dr who.length cr).ownBlock = some k → a.ownBlock ≠ some k) ∧
   u.ownsRow w2.heap.size 4 1 a ((nos.take i).map (answP c)).length (flat blC ((nos.take i).map (answP c))) ∧ ExtB (fun k => k = bv ∨ w2.heap.size ≤ k) w2 u) (.slice none 0 0) sb_ ⟨⟨none, 0, [], Y2, World.ownsRow_nil _ _ _ _, by simp, fun k h => by simp [Value.ownBlock] at h⟩, World.ownsRow_nil _ _ _ _, ExtB.refl _ _⟩ ?_ ?_
 ·rintro i a no u hx ⟨⟨dr, cr, who, Yu, hW, hwl, hsep⟩, hA, XU⟩ b o cap hve hrx hlt again
  rw [hve] at again ⊢
  obtain ⟨x, hpx⟩ := hjp no (List.mem_of_getElem? hx)
  have hb0 : b < w2.heap.size ∧ w.heap.size ≤ b := by
   have hne : nos ≠ [] := List.ne_nil_of_length_pos (by omega)
   have hob : (Value.slice dq nos.length cq).ownBlock = some b := by rw [hve]; rfl
   exact ⟨isL_own hq' (by decide) hne hob, by have := hqo b hob; omega⟩
  have hru := hrx.ext XU (by omega)
  have sU := XU.size
  have XN : Ext wN u := E12.write XU (by intro k hk hlt; omega)
  have Zu := Z12.ext XU (by omega)
  have hRu := hR.up XN
  have hKu := hK.up XN
  obtain ⟨-, hF, hPu⟩ := pol_hold hRu hpx
  have hcp := pol_check hC hpx
  obtain ⟨da, ca, rfl⟩ := isSl_slice (isSl_own hA)
  refine g ?_
  refine gc (policy_ok c N no x u hRu hpx) ?_
  rintro _ u1 ⟨rfl, F1⟩
  refine g1 (cs := x.pol.cells) fun B11 u2 F2 G11 Z11 => ?_
  have XN2 := XN.trans (F1.trans F2)
  have Zu2 := Zu.up (F1.trans F2)
  refine g ?_
  refine gc (people_ok c x.pol N u2 (hR.up XN2) hC (hPu.up (F1.trans F2)) hcp) ?_
  rintro r12 u3 ⟨hO, F3⟩
  have hpl := people_len c x.pol hR.nl
  have hae := answ_eq hpx
  generalize peopleP c x.pol = pp at hO hpl hae
  have XN3 := XN2.trans F3
  have Zu3 := Zu2.up F3
  have Z113 := Z11.up F3
  have hIp : IsL u3 intC 1 r12 pp := isSl_own hO
  obtain ⟨dp, cp', rfl⟩ := isSl_slice hIp
  refine g ?_
  refine gc (permitted_ok c x.pol pp _ N u3 (hR.up XN3) hC hF (hPu.up ((F1.trans F2).trans F3)) hcp (hK.up XN3) hIp (by omega)) ?_
  rintro _ u4 ⟨rfl, F4⟩
  rw [← hae]
  have F14 : Ext u u4 := ((F1.trans F2).trans F3).trans F4
  have sF := F14.size
  have hA4 := ownsRow_ext hA F14 (fun _ _ h => h)
  have hW4 := ownsRow_ext hW F14 (fun _ _ h => h)
  have Y4 := Yu.up F14
  have htm := take_map (answP c) hx
  rw [htm, List.length_append, flat_append, flat_one] at again
  have hal : ((nos.take i).map (answP c)).length ≤ 5 := by rw [List.length_map, List.length_take]; omega
  generalize (nos.take i).map (answP c) = acc at hA hA4 again hal hsep ⊢
  have hwb : ∀ k, (Value.slice dr who.length cr).ownBlock = some k → k < u.heap.size := fun k hk => isSl_ownlt hW hk
  refine g ?_
  refine ap1 encBl (answP c no) hA4 (ExtB.refl _ _) (by omega) (by omega) rfl rfl rfl rfl rfl rfl rfl rfl rfl rfl (fun _ => rfl) rfl (fun _ => rfl) fun q1 a' u5 O5 E5 hown => ?_
  have hab : ∀ k, (Value.slice da acc.length ca).ownBlock = some k → w2.heap.size ≤ k := fun k hk => ownsRow_ge hA4 hk
  have s5 := E5.size
  have Y5 := Y4.ext E5 (fun h => by have := hab _ h; omega)
  have hW5 := ownsRow_ext hW4 E5 (fun k hk h => hsep k hk h)
  have hIp5 : IsL u5 intC 1 (.slice dp pp.length cp') pp := isL_ext (hIp.up F4) E5 (fun hne k hk h => by
   have h1 := ownsRow_ge hO hk
   have h2 := isSl_ownlt hA h
   have := (F1.trans F2).size
   omega)
  have hsep5 : ∀ k, (Value.slice dr who.length cr).ownBlock = some k → a'.ownBlock ≠ some k := fun k hk h => by
   have h1 := hwb k hk
   exact hsep k hk (hown k h (by omega))
  refine g ?_
  refine RunL.ex rfl rfl rfl (OpE.append' Tryz.tOk rfl rfl rfl rfl rfl rfl hW5 hIp5 (flat_plain encI pp) (by show _ * 8 ≤ _; omega) (by omega) (by omega)) ?_
  rintro r6 u6 ⟨O6, E6, hown6⟩
  have hwb5 : ∀ k, (Value.slice dr who.length cr).ownBlock = some k → w2.heap.size ≤ k := fun k hk => ownsRow_ge hW5 hk
  have s6 := E6.size
  have Y6 := Y5.ext E6 (fun h => by have := hwb5 _ h; omega)
  have hA6 := ownsRow_ext O5 E6 (fun k hk h => hsep5 k h hk)
  obtain ⟨d6, c6, rfl⟩ := isSl_slice (isSl_own O6)
  have hal5 : ∀ k, a'.ownBlock = some k → k < u5.heap.size := fun k hk => isSl_ownlt O5 hk
  have hsep6 : ∀ k, (Value.slice d6 (who.length + pp.length) c6).ownBlock = some k → a'.ownBlock ≠ some k := fun k hk h => by
   have h1 := hal5 k h
   exact hsep5 k (hown6 k hk h1) h
  rw [← flat_append] at O6
  have hlw : who.length + pp.length = (who ++ pp).length := (List.length_append).symm
  rw [hlw] at O6 hsep6 ⊢
  refine g ?_
  refine RunL.store Tryz.tOk rfl rfl rfl rfl rfl Y6 rfl rfl fun u7 t7 => ?_
  have Y7 : Blk u7 bv (vdC st bu (.slice none 0 0) (.slice d6 (who ++ pp).length c6)) 34 := t7.at_
  have T7 : ExtB (fun k => k = bv) u6 u7 := t7.ext
  clear t7
  refine g ?_
  refine RunE.weaken sb_ (again a' u7 ⟨⟨d6, c6, who ++ pp, Y7, ownsRow_ext O6 T7 (fun k hk h => by have := ownsRow_ge O6 hk; have h : k = bv := h; omega), by rw [List.length_append]; omega, hsep6⟩, ownsRow_ext hA6 T7 (fun k hk h => by have := ownsRow_ge hA6 hk; have h : k = bv := h; omega), ?_⟩)
  exact (((XU.trans (ExtB.of_ext F14)).trans (E5.mono fun k _ hk => .inr (hab k hk))).trans (E6.mono fun k _ hk => .inr (hwb5 k hk))).trans (T7.mono fun k _ hk => .inl hk)
 ·rintro a u ⟨⟨dr, cr, who, Yu, hW, hwl, hsep⟩, hA, XU⟩
  rw [List.take_length] at hA
  have sU := XU.size
  have hnl : ((nos.map (answP c))).length ≤ 5 := by rw [List.length_map]; omega
  generalize nos.map (answP c) = acc at hA hnl ⊢
  obtain ⟨da, ca, rfl⟩ := isSl_slice (isSl_own hA)
  have hqb : ∀ k, nos ≠ [] → (Value.slice dq nos.length cq).ownBlock = some k → k < w2.heap.size ∧ w.heap.size ≤ k := fun k hne hk => ⟨isL_own hq' (by decide) hne hk, by have := hqo k hk; omega⟩
  refine g ?_
  refine gc (srtP_ok who _ w2.heap.size u (by omega) hW) ?_
  rintro _ u1 ⟨hW1, F1⟩
  have hwb : ∀ k, (Value.slice dr who.length cr).ownBlock = some k → w2.heap.size ≤ k := fun k hk => ownsRow_ge hW hk
  have s3 := F1.size
  have Y1' := Yu.ext F1 (fun h => by have := hwb _ h; omega)
  have hA1 := ownsRow_ext hA F1 (fun k hk h => hsep k h hk)
  have X1 := XU.trans (F1.mono (S' := fun k => k = bv ∨ w2.heap.size ≤ k) fun k _ hk => .inr (hwb k hk))
  have hsl := srtI_len who
  generalize srtI who = who' at hW1 hsl
  have hW1' : OwnI u1 w2.heap.size (.slice dr who'.length cr) who' := by rw [hsl]; exact hW1
  rw [← hsl] at Y1' hsep
  clear hW1
  refine g ?_
  refine gc (compactP_ok who' _ w2.heap.size u1 (by omega) hW1') ?_
  rintro r u2 ⟨⟨hW2, hro⟩, F2⟩
  have hwb1 : ∀ k, (Value.slice dr who'.length cr).ownBlock = some k → w2.heap.size ≤ k := fun k hk => ownsRow_ge hW1' hk
  have s4 := F2.size
  have Y2' := Y1'.ext F2 (fun h => by have := hwb1 _ h; omega)
  have hA2 := ownsRow_ext hA1 F2 (fun k hk h => hsep k h hk)
  have X2 := X1.trans (F2.mono (S' := fun k => k = bv ∨ w2.heap.size ≤ k) fun k _ hk => .inr (hwb1 k hk))
  obtain ⟨d2, c2, rfl⟩ := isSl_slice (isSl_own hW2)
  refine g ?_
  refine RunL.store Tryz.tOk rfl rfl rfl rfl rfl Y2' rfl rfl fun u3 t3 => ?_
  have Y3 : Blk u3 bv (vdC st bu (.slice dq nos.length cq) (.slice dr who'.length cr)) 34 := t3.at_
  have T3 : ExtB (fun k => k = bv) u2 u3 := t3.ext
  clear t3
  refine g ?_
  refine RunL.store Tryz.tOk rfl rfl rfl rfl rfl Y3 rfl rfl fun u4 t4 => ?_
  have Y4 : Blk u4 bv (vdC st bu (.slice dq nos.length cq) (.slice d2 (Go.Lib.compact who').length c2)) 34 := t4.at_
  have T4 : ExtB (fun k => k = bv) u3 u4 := t4.ext
  clear t4
  have T34 := T3.trans T4
  have X4 : ExtB (fun k => k = bv ∨ w2.heap.size ≤ k) w2 u4 := X2.trans (T34.mono fun k _ hk => .inl hk)
  have hA4 := ownsRow_ext hA2 T34 (fun k hk h => by have := ownsRow_ge hA2 hk; have h : k = bv := h; omega)
  have hq4 : IsL u4 intC 1 (.slice dq nos.length cq) nos := isL_ext hq' X4 fun hne k hk h => by have := hqb k hne hk; omega
  have XW4 : ExtB (fun k => k = bv) w u4 := by
   have e2 : ExtB (fun k => k = bv) w w2 := ExtB.of_ext (E1.trans E2)
   exact e2.write X4 (by intro k hk hlt; rcases hk with hk | hk; exact hk; omega)
  have res : ∀ u5, Ext u4 u5 → (∃ (dq' : Option Addr) (cq' : Nat) (dr' : Option Addr) (nr' cr' : Nat), Blk u5 bv (vdC st bu (.slice dq' nos.length cq') (.slice dr' nr' cr')) 34 ∧ IsL u5 intC 1 (.slice dq' nos.length cq') nos ∧ ∀ k, (Value.slice dq' nos.length cq').ownBlock = some k → w.heap.size ≤ k) ∧ ExtB (fun k => k = bv) w u5 := fun u5 e =>
   ⟨⟨dq, cq, d2, _, c2, Y4.up e, hq4.up e, fun k hk => by have := hqo k hk; omega⟩, XW4.trans (ExtB.of_ext e)⟩
  clear Y3 Y4 Y2' Y1' Yu hW1' hW2 hq4
  rcases hmz with ⟨hm0, -⟩ | hm1
  ·subst hm0
   rw [if_pos rfl]
   refine rt ?_
   exact ⟨rfl, (res u4 (ExtB.refl _ _)).1, (res u4 (ExtB.refl _ _)).2⟩
  ·rw [if_neg (by omega)]
   refine g ?_
   refine gc (Decide_ok md acc _ u4 hm1 (by omega) (isSl_own hA4)) ?_
   rintro _ u5 ⟨rfl, F5⟩
   refine rt ?_
   exact ⟨rfl, (res u5 F5).1, (res u5 F5).2⟩
end Go.Sg
end
