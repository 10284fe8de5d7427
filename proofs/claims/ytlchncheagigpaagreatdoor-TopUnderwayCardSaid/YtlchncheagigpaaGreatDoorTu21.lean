/- Parts of this project: JudT. -/
import Derived.Test.YtlchncheagigpaaGreatDoorTu19
set_option maxHeartbeats 32000000
set_option linter.unusedSimpArgs false
set_option linter.unusedVariables false
set_option linter.unusedSectionVars false
section
set_option maxRecDepth 4000
namespace Go.Jud
open Go.Rn Go.Rec Go.Pol Go.Und Go.Doc Go.Bud Go.Off Go.Dep Go.Itr Go.Apv
def rg0 : Rg := ⟨[], none, 0, [], none, 0, [], none, 0, [], none, 0, [], none, 0, [], none, 0, [], none, 0⟩
theorem hold0 (w : World) : HoldR w 0 rg0 := ⟨IsSl.nil, IsSl.nil, IsSl.nil, IsSl.nil, IsSl.nil, IsSl.nil, IsSl.nil, ⟨fun x h => absurd h (by simp [rg0]), fun x h => absurd h (by simp [rg0]), Nat.zero_le _⟩, fun x h => absurd h (by simp [rg0]), by decide, by decide, by decide, by decide, by decide, by decide, by decide⟩
theorem err0 : errE rg0 [] [] 0 0 0 = 1 := by decide
theorem errE_of {r : Rg} {sg : List Int} {us : List Us} {doc t kn : Int} {d : Dk} (h1 : OkR r) (h2 : okArg (docs r) sg 0 = true) (h3 : usesB us = true) (h4 : docP r doc = some d) (h5 : tmB t = true) (h6 : tmB kn = true) : errE r sg us doc t kn = 0 := by
 unfold errE
 rw [chkR_iff.2 h1, h2, h3, h4, h5, h6]; rfl
theorem hold_alone {w : World} {N : Nat} {r : Rg} {x : Vs} {u : Option Addr} {k : Nat} (h : HoldR w N r) (hx : x ∈ r.vs) (hv : IsL w Vs.cells 13 (.slice u [aloneV x].length k) [aloneV x]) : HoldR w N (aloneR r x u k) :=
 ⟨h.ap, h.dp, h.it, h.bg, hv, h.ds, h.av, ⟨fun y hy => by
  have hy : y = aloneV x := by simpa [aloneR] using hy
  subst hy
  have f := h.hv.few x hx
  exact ⟨f.k, f.o, f.r, f.c, f.e, f.ns, f.ks, f.os⟩, fun y hy => by
  have hy : y = aloneV x := by simpa [aloneR] using hy
  subst hy
  have f := h.hv.hold x hx
  exact ⟨f.k, f.o, f.r, f.re, f.ch, f.kb, f.ob, f.rb⟩, h.hv.n⟩, h.hd, h.al, h.dl, h.il, h.bl, by show 1 ≤ 5; omega, h.kl, h.nl⟩
theorem dec3 : ∀ l : List Bool, decB 3 l = (decide (0 < l.length) && l.all id)
 | [] => rfl
 | y :: l => by
  show (!((y :: l).any not) && (y :: l).any id) = _
  have h : (l.any not) = !(l.all id) := by
   induction l with
   | nil => rfl
   | cons z l ih => rw [List.any_cons, List.all_cons, ih]; cases z <;> simp
  rw [List.any_cons, List.all_cons, List.any_cons, h]
  cases y <;> simp
theorem dec12 {m : Int} (hm : m = 1 ∨ m = 2) (a : Bool) : decB m [a] = a := by
 rcases hm with rfl | rfl <;> cases a <;> rfl
theorem over_eq (c : Ct) (rm : Bool) (nos : List Int) : (nos.any fun no => answP c no && !rm) = ((nos.map (answP c)).any id && !rm) := by
 rw [List.any_map]
 cases rm
 ·simp
 ·simp
theorem st_eq {c : Ct} {sg : List Int} {us : List Us} (h1 : closedP c sg = false) (h2 : lacksP c sg = false) : stateP c sg us = if askP c then (if roomP c us then 0 else 4) else 3 := by
 unfold stateP
 rw [h1, h2]
 cases askP c <;> cases roomP c us <;> rfl
end Go.Jud
namespace Go.Sg
open Go.Rn Go.Proofs Go.Rec Go.RowKit Go.Jud Go.Doc Go.Pol Go.Apv Go.Best Go.Und Go.Off Go.Per Go.Bud
attribute [local irreducible] Go.Rn.RetsX Go.Rn.RunLN Go.Rn.AsyN Go.Rn.RunL Go.Rn.RunE Go.Rn.Asy Go.Rn.OpV Go.Rn.OpE Go.Rn.ExecE
theorem topUnderway_core (r : Rg) (sg : List Int) (us : List Us) (sv uv : Value) (doc t kn : Int) (N : Nat) (W : World) (hI : RegIn W N r) (hsg : IsL W intC 1 sv sg) (hus : IsL W Us.cells 5 uv us) (hK : Row W 0 0 kindsC) :
  Rets Tryz.prog 3 [rgV r, sv, uv, .int .i64 doc, .int .i64 t, .int .i64 kn] W fun v w' => v = .bool true ∧ Ext W w' := by
 obtain ⟨ds, cs, rfl⟩ := isSl_slice hsg
 obtain ⟨du, cu, rfl⟩ := isSl_slice hus
 refine en Tryz.func3 334 fun hf_ => ?_
 refine g1 (cs := r.cells) fun B6 w1 E1 G6 Z6 => ?_
 refine g ?_
 refine gc (judge_ok rg0 [] [] (.slice none 0 0) (.slice none 0 0) 0 0 0 0 w1 (hold0 w1) (hK.up E1) IsSl.nil (by decide) IsSl.nil (by decide)) ?_
 rintro _ w2 ⟨⟨st0, bu0, dq0, nq0, cq0, dr0, nr0, cr0, rfl, -, -⟩, E2⟩
 rw [err0]
 refine g1 (cs := vdC st0 bu0 (.slice dq0 nq0 cq0) (.slice dr0 nr0 cr0)) fun B13 w3 E3 G13 Z13 => ?_
 have X3 : Ext W w3 := (E1.trans E2).trans E3
 have Z63 := Z6.up (E2.trans E3)
 clear Z13 Z6
 refine g ?_
 refine gc (few30_ok r N w3 (hI.up X3)) ?_
 rintro _ w4 ⟨⟨b, rfl, hb⟩, E4⟩
 have X4 : Ext W w4 := X3.trans E4
 cases b with
 | false =>
  refine rt ?_
  exact ⟨rfl, X4⟩
 | true =>
 have hF := hb rfl
 by_cases hs20 : sg.length ≤ 20
 case neg =>
  refine rt ?_
  exact ⟨rfl, X4⟩
 by_cases hu20 : us.length ≤ 20
 case neg =>
  refine rt ?_
  exact ⟨rfl, X4⟩
 have hR := hI.hold hF
 have Z64 := Z63.up E4
 refine g ?_
 refine gc (judge_ok r sg us _ _ doc t kn N w4 (hR.up X4) (hK.up X4) (hsg.up X4) (by omega) (hus.up X4) (by omega)) ?_
 rintro _ w5 ⟨⟨st, bu, dq, nq, cq, dr, nr, cr, rfl, hJe, hJ⟩, E5⟩
 have X5 : Ext W w5 := X4.trans E5
 have Z65 := Z64.up E5
 refine g1 (cs := vdC st bu (.slice dq nq cq) (.slice dr nr cr)) fun B15 w6 E6 G15 Z15 => ?_
 have X6 : Ext W w6 := X5.trans E6
 have Z66 := Z65.up E6
 by_cases he : errE r sg us doc t kn = 0
 case neg =>
  obtain ⟨rfl, rfl, rfl⟩ := hJe he
  refine rt ?_
  exact ⟨rfl, X6⟩
 clear hJe
 rw [he]
 obtain ⟨hO, hoa, hub, ⟨d, hd⟩, ht, hkn⟩ := errE_zero he
 have hdm := doc_mem hd
 have hC : OkC ⟨r, d, t, kn⟩ := ⟨hO, hdm, of_decide_eq_true ht, of_decide_eq_true hkn⟩
 obtain ⟨hst, hcl1, hcl2⟩ := hJ he d hd
 have hbeg := begF_ok hC hd
 generalize hcc : (⟨r, d, t, kn⟩ : Ct) = c at hC hst hcl1 hcl2
 have hcr : c.r = r := by rw [← hcc]
 have hca : c.at_ = t := by rw [← hcc]
 have hck : c.kn = kn := by rw [← hcc]
 have hcd : c.d = d := by rw [← hcc]
 by_cases hcl : closedP c sg = true
 ·obtain ⟨rfl, rfl⟩ := hcl1 (.inl hcl)
  have h1 : st = 1 := by rw [hst]; unfold stateP; rw [hcl]; rfl
  subst h1
  refine rt ?_
  exact ⟨rfl, X6⟩
 have hcl : closedP c sg = false := by simpa using hcl
 by_cases hlk : lacksP c sg = true
 ·obtain ⟨rfl, rfl⟩ := hcl1 (.inr hlk)
  have h1 : st = 2 := by rw [hst]; unfold stateP; rw [hcl, hlk]; rfl
  subst h1
  refine rt ?_
  exact ⟨rfl, X6⟩
 have hlk : lacksP c sg = false := by simpa using hlk
 obtain ⟨rfl, hqv⟩ := hcl2 hcl hlk
 clear hcl1 hcl2 hJ
 rw [st_eq hcl hlk] at hst
 have hst12 : st ≠ 1 ∧ st ≠ 2 := by rw [hst]; cases askP c <;> cases roomP c us <;> decide
 obtain ⟨st1, st2⟩ := hst12
 have hle : c.d.d.at_ ≤ c.at_ := by
  have := hcl
  unfold closedP at this
  rw [Bool.or_eq_false_iff, decide_eq_false_iff_not] at this
  omega
 have hR6 := hR.up X6
 have hkl := hR.kl
 refine g ?_
 refine rangeL hR6.ds encDk 104 105 106 (fun b : Int => [(1, .slice ds sg.length cs), (2, .slice du us.length cu), (3, .int .i64 doc), (4, .int .i64 t), (5, .int .i64 kn), (6, pt B6), (15, pt B15), (17, .int .i64 b)]) (fun i b u => b = begF doc (r.ds.take i) ∧ Ext w6 u) 0 sb_ ⟨rfl, ExtB.refl _ _⟩ ?_ ?_
 ·rintro i b x u hx ⟨hbi, XU⟩ b' o cap hve hrx hlt again
  rw [hve] at again ⊢
  have htk : begF doc (r.ds.take (i + 1)) = if x.d.no = doc then x.d.at_ else b := by
   unfold begF at hbi ⊢
   rw [List.take_add_one, hx, List.foldl_append, ← hbi]; rfl
  rw [htk] at again
  refine g1 (cs := x.cells) fun B19 u1 F1 G19 Z19 => ?_
  by_cases hn : x.d.no = doc
  ·rw [if_pos hn] at again
   refine g ?_
   exact RunE.weaken sb_ (again x.d.at_ u1 ⟨rfl, XU.trans F1⟩)
  ·rw [if_neg hn] at again
   refine g ?_
   exact RunE.weaken sb_ (again b u1 ⟨rfl, XU.trans F1⟩)
 rintro b w7 ⟨hb7, F7⟩
 rw [List.take_length, hbeg] at hb7
 subst hb7
 have hdat : d.d.at_ = c.d.d.at_ := by rw [hcd]
 rw [hdat]
 obtain ⟨n1, n2, n3, n4, -⟩ := (doc_right hC hC.m).1
 obtain ⟨ht0, ht1⟩ := hC.t
 obtain ⟨hk0, hk1⟩ := hC.k
 rw [hca] at ht0 ht1 hle
 rw [hck] at hk0 hk1
 have X7 : Ext W w7 := X6.trans F7
 have Z67 := Z66.up F7
 have Z157 := Z15.up F7
 have hR7 := hR.up X7
 have hvl := hR.vl
 clear Z66 Z65 Z64 Z63
 refine g ?_
 refine gc (Judges_ok r.vs _ c.d.d.at_ t kn N w7 (by omega) hR7.vs hR7.hv (hK.up X7) hO.v ⟨n3, by omega⟩ ⟨ht0, by omega⟩ ⟨hk0, by omega⟩ hle) ?_
 rintro _ w8 ⟨⟨q2, rfl, hq2, -⟩, E8⟩
 have X8 := X7.trans E8
 have Z68 := Z67.up E8
 have hR8 := hR.up X8
 refine g ?_
 refine gc (pstand_ok r.vs _ t kn N w8 (by omega) hR8.vs hR8.hv (hK.up X8) hO.v ⟨ht0, by omega⟩ ⟨hk0, by omega⟩) ?_
 rintro _ w9 ⟨rfl, E9⟩
 have X9 := X8.trans E9
 have Z69 := Z68.up E9
 have hR9 := hR.up X9
 refine g ?_
 refine gc (pstand_ok r.vs _ c.d.d.at_ kn N w9 (by omega) hR9.vs hR9.hv (hK.up X9) hO.v ⟨n3, by omega⟩ ⟨hk0, by omega⟩) ?_
 rintro _ w10 ⟨rfl, E10⟩
 have X10 := X9.trans E10
 have Z610 := Z69.up E10
 have Z1510 := Z157.up (E8.trans (E9.trans E10))
 have hjn : judgesP c = nosF c.d.d.at_ t kn r.vs := by rw [← hca, ← hck, ← hcr]; rfl
 have hmd : modeP c = modeF (metF c.d.d.at_ t kn r.vs) := by rw [← hca, ← hck, ← hcr]; rfl
 have sN : stdV t kn r.vs = none → judgesP c = [] ∧ modeP c = 0 := fun h => std_none hC (by rw [hca]; exact hle) (by rw [hca, hck, hcr]; exact h)
 have sS : ∀ x, stdV t kn r.vs = some x → 1 ≤ modeP c ∧ modeP c ≤ 4 ∧ (modeP c = 1 → (stdV c.d.d.at_ kn r.vs = none ∧ judgesP c = []) ∨ ∃ y, stdV c.d.d.at_ kn r.vs = some y ∧ judgesP c = [y.no]) ∧ (modeP c = 2 → judgesP c = [x.no]) ∧ (3 ≤ modeP c → judgesP c ≠ []) := fun x h => by
  have := std_some hC (by rw [hca]; exact hle) (x := x) (by rw [hca, hck, hcr]; exact h)
  rw [hck, hcr] at this
  exact this
 have hak : askP c = if modeP c = 0 then false else decB (modeP c) ((judgesP c).map (answP c)) := rfl
 have hpol : ∀ no ∈ judgesP c, ∃ x, polP c.r.vs no = some x := fun no h => judges_pol hC h
 have hjl : (judgesP c).length ≤ 5 := Nat.le_trans (judges_len c) (by rw [hcr]; exact hvl)
 rw [← hjn] at hq2
 rw [← hmd]
 generalize hnos : judgesP c = nos at hq2 hqv hjl hpol sN sS hak Z1510
 generalize modeP c = md at sN sS hak
 generalize stdV t kn r.vs = sn at sN sS
 generalize stdV c.d.d.at_ kn r.vs = so at sS
 clear hjn hmd
 have hq10 : IsL w10 intC 1 (.slice dq nos.length cq) nos := hqv.up (E6.trans (F7.trans (E8.trans (E9.trans E10))))
 obtain ⟨d2, c2, rfl⟩ := isSl_slice hq2
 have hq210 := hq2.up (E9.trans E10)
 refine g ?_
 refine gc (sameI_ok nos _ _ w10 (by omega) hq210 hq10) ?_
 rintro _ w11 ⟨rfl, E11⟩
 have X11 := X10.trans E11
 have Z611 := Z610.up E11
 have Z1511 := Z1510.up E11
 have hq11 := hq210.up E11
 clear hq2 hq210 hq10 hqv Z67 Z68 Z69 Z610 Z157 Z1510 Z15
 cases sn with
 | none =>
  obtain ⟨rfl, rfl⟩ := sN rfl
  rw [if_pos rfl] at hak
  rw [hak, if_neg (by decide)] at hst
  subst hst
  refine rt ?_
  exact ⟨rfl, X11⟩
 | some xn =>
 obtain ⟨m1, m4, h1, h2, h3⟩ := sS xn rfl
 rw [if_neg (by omega)] at hak
 clear sN sS
 generalize hrm : roomP c us = rm at hst
 have hal : ∀ no x u k, polP c.r.vs no = some x → stateP (aloneC c x u k) sg us = if answP c no then (if rm then 0 else 4) else 3 := fun no x u k h => by rw [← hrm]; exact alone_state hC hcl hlk h u k
 have hl11 := Z611.lt
 have hl15 := Z1511.lt
 refine g ?_
 refine rangeL hq11 encI 172 173 174 (fun s : Value × Bool => [(1, .slice ds sg.length cs), (2, .slice du us.length cu), (3, .int .i64 doc), (4, .int .i64 t), (5, .int .i64 kn), (6, pt B6), (15, pt B15), (20, .slice d2 nos.length c2), (21, .int .i64 md), (23, .int .i64 xn.no), (26, .int .i64 (Go.Sg.sNo so)), (27, .bool so.isSome), (29, s.1), (30, .bool s.2)])
  (fun i s u => u.ownsRow w11.heap.size 4 1 s.1 ((nos.take i).map (answP c)).length (flat blC ((nos.take i).map (answP c))) ∧ s.2 = ((nos.take i).any fun no => answP c no && !rm) ∧ ExtB (fun k => w11.heap.size ≤ k) w11 u) (.slice none 0 0, false) sb_ ⟨World.ownsRow_nil _ _ _ _, rfl, ExtB.refl _ _⟩ ?_ ?_
 ·rintro i ⟨a, ov⟩ no u hx ⟨hA, hov, XU⟩ b o cap hve hrx hlt again
  rw [hve] at again ⊢
  simp only at hA hov again ⊢
  obtain ⟨x, hpx⟩ := hpol no (List.mem_of_getElem? hx)
  have hb0 : b < w11.heap.size := isL_own hq11 (by decide) (List.ne_nil_of_length_pos (by omega)) (by rw [hve]; rfl)
  have hru := hrx.ext XU (by omega)
  have sU := XU.size
  have XW : Ext W u := X11.write XU (by intro k hk hlt; have hk : w11.heap.size ≤ k := hk; have := X11.size; omega)
  have Z6u := Z611.ext XU (by omega)
  have Z15u := Z1511.ext XU (by omega)
  have hxm : x ∈ r.vs := by rw [← hcr]; exact List.mem_of_find?_eq_some hpx
  have hone : aloneL r.vs no = [aloneV x] := by rw [← hcr]; exact alone_one hC hpx
  obtain ⟨da, ca, rfl⟩ := isSl_slice (isSl_own hA)
  have htm := take_map (answP c) hx
  have hany : ((nos.take (i + 1)).any fun no => answP c no && !rm) = (ov || (answP c no && !rm)) := by
   rw [List.take_add_one, hx, List.any_append, ← hov]; simp
  rw [htm, List.length_append, flat_append, flat_one, hany] at again
  have hall : ((nos.take i).map (answP c)).length ≤ 5 := by rw [List.length_map, List.length_take]; omega
  generalize (nos.take i).map (answP c) = acc at hA again hall
  refine g ?_
  refine gc (alone30_ok r no N u (hR.up XW)) ?_
  rintro _ u1 ⟨⟨uv', k', rfl, hv1⟩, F1⟩
  rw [hone] at hv1
  rw [hone]
  have XW1 := XW.trans F1
  have hRA := hold_alone (hR.up XW1) hxm hv1
  refine g1 (cs := (aloneR r x uv' k').cells) fun B33 u2 F2 G33 Z33 => ?_
  have XW2 := XW1.trans F2
  have Z332 : Blk u2 B33 (aloneR r x uv' k').cells 30 := Z33
  have hA2 := alone_ok hC hpx uv' k'
  have hEA : errE (aloneR r x uv' k') sg us doc t kn = 0 := by
   have h5 : OkR (aloneR r x uv' k') := by rw [← hcr]; exact hA2.r
   exact errE_of h5 hoa hub hd ht hkn
  refine g ?_
  refine gc (judge_ok (aloneR r x uv' k') sg us _ _ doc t kn N u2 (hRA.up F2) (hK.up XW2) (hsg.up XW2) (by omega) (hus.up XW2) (by omega)) ?_
  rintro _ u3 ⟨⟨st', bu', dq', nq', cq', dr', nr', cr', rfl, -, hJA⟩, F3⟩
  obtain ⟨hst', -⟩ := hJA hEA d hd
  have hca' : (⟨aloneR r x uv' k', d, t, kn⟩ : Ct) = aloneC c x uv' k' := by rw [← hcc]; rfl
  rw [hca', hal no x uv' k' hpx] at hst'
  rw [hEA]
  refine g1 (cs := vdC st' bu' (.slice dq' nq' cq') (.slice dr' nr' cr')) fun B35 u4 F4 G35 Z35 => ?_
  have FX : Ext u u4 := ((F1.trans F2).trans F3).trans F4
  have Z15x := Z15u.up FX
  have hA4 := ownsRow_ext hA FX (fun _ _ h => h)
  have sF := FX.size
  have hab : ∀ k, (Value.slice da acc.length ca).ownBlock = some k → w11.heap.size ≤ k := fun k hk => ownsRow_ge hA4 hk
  generalize answP c no = an at hst' again
  clear hJA hEA hRA hA2 Z33 hv1 hone hany htm
  cases hask : askP c
  all_goals
   rw [hask] at hst
   cases rm
   all_goals
    simp only [if_true, if_false, Bool.false_eq_true] at hst hst'
    cases an
    all_goals
     simp only [if_true, if_false, Bool.false_eq_true] at hst'
     subst hst hst'
     refine g ?_
     refine ap1 encBl _ hA4 (ExtB.refl _ _) (by omega) (by omega) rfl rfl rfl rfl rfl rfl rfl rfl rfl rfl (fun _ => rfl) rfl (fun _ => rfl) fun q1 a' u5 O5 E5 hown => ?_
     have Z155 := Z15x.ext E5 (fun h => by have := hab _ h; omega)
     have Z355 := Z35.ext E5 (fun h => by have h9 := isSl_ownlt hA h; have := (F1.trans (F2.trans F3)).size; omega)
     have XU5 : ExtB (fun k => w11.heap.size ≤ k) w11 u5 := (XU.trans (ExtB.of_ext FX)).trans (E5.mono fun k _ hk => hab k hk)
     cases ov
     all_goals
      refine g ?_
      exact RunE.weaken sb_ (again (a', _) u5 ⟨O5, rfl, XU5⟩)
 ·rintro ⟨a, ov⟩ u ⟨hA, hov, XU⟩
  rw [List.take_length] at hA hov
  simp only at hA hov
  rw [over_eq c rm nos] at hov
  have XW : Ext W u := X11.write XU (by intro k hk hlt; have hk : w11.heap.size ≤ k := hk; have := X11.size; omega)
  have Z15u := Z1511.ext XU (by omega)
  have hqu : IsL u intC 1 (.slice d2 nos.length c2) nos := isL_ext hq11 XU fun hne k hk h => by have := isL_own hq11 (by decide) hne hk; have h : w11.heap.size ≤ k := h; omega
  obtain ⟨da, ca, rfl⟩ := isSl_slice (isSl_own hA)
  have hAu : IsL u blC 1 (.slice da (nos.map (answP c)).length ca) (nos.map (answP c)) := isSl_own hA
  have hlen : (nos.map (answP c)).length = nos.length := List.length_map _
  clear hal hA Z611 Z1511 hq11 hR6 hR7 hR8 hR9 hR hI hF hsg hus hK
  generalize hans : nos.map (answP c) = ans at hAu hov hak hlen ⊢
  rw [hak] at hst
  refine g ?_
  refine rangeL hAu encBl 244 245 246 (fun q : Bool × Bool => [(15, pt B15), (20, .slice d2 nos.length c2), (21, .int .i64 md), (23, .int .i64 xn.no), (26, .int .i64 (Go.Sg.sNo so)), (27, .bool so.isSome), (29, .slice da ans.length ca), (30, .bool ov), (37, .bool q.1), (38, .bool q.2)])
   (fun i q w' => q.1 = (decide ((ans.length : Int) > 0) && (ans.take i).all id) ∧ q.2 = (ans.take i).any id ∧ Ext u w') (decide ((ans.length : Int) > 0), false) sb_ ⟨by simp, by simp, ExtB.refl _ _⟩ ?_ ?_
  ·rintro i ⟨p, q⟩ y u1 hx ⟨hp, hq, XV⟩ b o cap hve hrx hlt again
   rw [hve] at again ⊢
   simp only at hp hq again ⊢
   have hp' : (decide ((ans.length : Int) > 0) && (ans.take (i + 1)).all id) = (p && y) := by
    rw [List.take_add_one, hx, List.all_append, hp, Bool.and_assoc]; simp
   have hq' : (ans.take (i + 1)).any id = (q || y) := by
    rw [List.take_add_one, hx, List.any_append, hq]; simp
   rw [hp', hq'] at again
   clear hp hq hp' hq'
   cases p <;> cases q <;> cases y
   all_goals
    refine g ?_
    exact RunE.weaken sb_ (again (_, _) u1 ⟨rfl, rfl, XV⟩)
  rintro ⟨p, q⟩ u1 ⟨hp, hq, XV⟩
  rw [List.take_length] at hp hq
  simp only at hp hq
  have hpd : decide ((ans.length : Int) > 0) = decide (0 < ans.length) := by rw [Bool.eq_iff_iff]; simp
  rw [hpd] at hp
  have Z151 := Z15u.up XV
  have hqu1 := hqu.up XV
  have hAu1 := hAu.up XV
  have XF : Ext W u1 := XW.trans XV
  clear Z15u hqu hAu hpd
  clear E1 G6 E2 E3 G13 X3 E4 X4 hb hs20 hu20 E5 X5 E6 G15 X6 he hO hoa hub hd ht hkn hdm hbeg hC hcr hca hck hcd hcl hlk st1 st2 hle hkl F7 hdat n1 n2 n3 n4 ht0 ht1 hk0 hk1 X7 hvl E8 X8 E9 X9 E10 X10 hnos hpol E11 X11 hl11 hl15 hak XU XW XV hrm
  clear hcc
  obtain rfl | rfl | rfl | rfl : md = 1 ∨ md = 2 ∨ md = 3 ∨ md = 4 := by omega
  all_goals clear m1 m4
  ·rcases h1 rfl with ⟨hso, hn⟩ | ⟨y, hso, hn⟩
   ·have hnl : nos.length = 0 := by rw [hn]; rfl
    have ha : ans = [] := by rw [← hans, hn]; rfl
    have hst : st = 3 := by rw [hst, ha]; rfl
    have hov : ov = false := by rw [hov, ha]; rfl
    have hp : p = false := by rw [hp, ha]; rfl
    have hq : q = false := by rw [hq, ha]; rfl
    have e1 : Go.Sg.sNo so = 0 := by rw [hso]; rfl
    have e2 : so.isSome = false := by rw [hso]; rfl
    generalize Go.Sg.sNo so = on at e1
    generalize so.isSome = was at e2
    subst hst hov hp hq e1 e2
    clear h1 h2 h3 hjl hlen hans hqu1 hAu1 ha hn hso
    by_cases hon : (0 : Int) = xn.no
    all_goals
     refine rt ?_
     exact ⟨rfl, XF⟩
   ·have hnl : nos.length = 1 := by rw [hn]; rfl
    have ha : ans = [answP c y.no] := by rw [← hans, hn]; rfl
    rw [ha, dec12 (.inl rfl)] at hst
    rw [ha] at hp hq hov
    generalize answP c y.no = an at hp hq hov hst ha
    have hp : p = an := by rw [hp]; simp
    have hq : q = an := by rw [hq]; simp
    have hov : ov = (an && !rm) := by rw [hov]; simp
    have e1 : Go.Sg.sNo so = y.no := by rw [hso]; rfl
    have e2 : so.isSome = true := by rw [hso]; rfl
    obtain ⟨b, o, cap, hve, hr, -⟩ := isL_held hqu1 (i := 0) (by omega)
    obtain ⟨b', o', cap', hve', hr', -⟩ := isL_held hAu1 (i := 0) (by omega)
    have hrx : Row u1 b (o + 0 * 1) (intC y.no) := flat_row encI hr (by rw [hn]; rfl)
    have hrx' : Row u1 b' (o' + 0 * 1) (blC an) := flat_row encBl hr' (by rw [ha]; rfl)
    have hal : ans.length = 1 := by rw [ha]; rfl
    cases hve
    cases hve'
    generalize Go.Sg.sNo so = on at e1
    generalize so.isSome = was at e2
    subst hp hq e1 e2
    clear hqu1 hAu1 hr hr' h1 h2 h3 hjl hlen hans ha hn hso
    cases q
    case' true => cases rm
    all_goals
     simp only [if_true, if_false, Bool.false_eq_true, Bool.and_true, Bool.and_false, Bool.not_true, Bool.not_false] at hst hov
     subst hst hov
     by_cases hon : y.no = xn.no
     all_goals
      refine g ?_
      refine RunL.evV rfl rfl rfl (OpV.indexS Tryz.tOk 0 rfl rfl rfl rfl (by omega)) ?_
      refine g ?_
      refine RunL.evV rfl rfl rfl (OpV.indexS Tryz.tOk 0 rfl rfl rfl rfl (by omega)) ?_
      refine rt ?_
      exact ⟨rfl, XF⟩
  ·have hn := h2 rfl
   have hnl : nos.length = 1 := by rw [hn]; rfl
   have ha : ans = [answP c xn.no] := by rw [← hans, hn]; rfl
   rw [ha, dec12 (.inr rfl)] at hst
   rw [ha] at hp hq hov
   generalize answP c xn.no = an at hp hq hov hst ha
   have hp : p = an := by rw [hp]; simp
   have hq : q = an := by rw [hq]; simp
   have hov : ov = (an && !rm) := by rw [hov]; simp
   obtain ⟨b, o, cap, hve, hr, -⟩ := isL_held hqu1 (i := 0) (by omega)
   obtain ⟨b', o', cap', hve', hr', -⟩ := isL_held hAu1 (i := 0) (by omega)
   have hrx : Row u1 b (o + 0 * 1) (intC xn.no) := flat_row encI hr (by rw [hn]; rfl)
   have hrx' : Row u1 b' (o' + 0 * 1) (blC an) := flat_row encBl hr' (by rw [ha]; rfl)
   have hal : ans.length = 1 := by rw [ha]; rfl
   cases hve
   cases hve'
   generalize Go.Sg.sNo so = on
   generalize so.isSome = was
   subst hp hq
   clear hqu1 hAu1 hr hr' h1 h2 h3 hjl hlen hans ha hn
   cases q
   case' true => cases rm
   all_goals
    simp only [if_true, if_false, Bool.false_eq_true, Bool.and_true, Bool.and_false, Bool.not_true, Bool.not_false] at hst hov
    subst hst hov
    by_cases hon : on = xn.no
    ·cases was
     all_goals
      refine g ?_
      refine RunL.evV rfl rfl rfl (OpV.indexS Tryz.tOk 0 rfl rfl rfl rfl (by omega)) ?_
      refine g ?_
      refine RunL.evV rfl rfl rfl (OpV.indexS Tryz.tOk 0 rfl rfl rfl rfl (by omega)) ?_
      refine rt ?_
      exact ⟨rfl, XF⟩
    ·refine g ?_
     refine RunL.evV rfl rfl rfl (OpV.indexS Tryz.tOk 0 rfl rfl rfl rfl (by omega)) ?_
     refine g ?_
     refine RunL.evV rfl rfl rfl (OpV.indexS Tryz.tOk 0 rfl rfl rfl rfl (by omega)) ?_
     refine rt ?_
     exact ⟨rfl, XF⟩
  ·rw [dec3] at hst
   rw [← hp] at hst
   have hpq : p = true → q = true := fun h => by
    rw [hp, Bool.and_eq_true, decide_eq_true_eq] at h
    rw [hq]
    obtain ⟨y, l, rfl⟩ : ∃ y l, ans = y :: l := by
     cases ans with
     | nil => simp at h
     | cons y l => exact ⟨y, l, rfl⟩
    rw [List.all_cons, Bool.and_eq_true] at h
    rw [List.any_cons, h.2.1]; rfl
   rw [← hq] at hov
   generalize Go.Sg.sNo so = on
   generalize so.isSome = was
   clear hp hq h1 h2 h3 hjl hlen hqu1 hAu1 hans
   cases p with
   | false =>
    simp only [if_true, if_false, Bool.false_eq_true, Bool.and_true, Bool.and_false, Bool.not_true, Bool.not_false] at hst
    subst hst
    clear hov hpq
    by_cases hon : on = xn.no
    ·cases was
     ·refine rt ?_
      exact ⟨rfl, XF⟩
     ·by_cases hl1 : nos.length = 1
      ·refine rt ?_
       exact ⟨rfl, XF⟩
      ·refine rt ?_
       exact ⟨rfl, XF⟩
    ·refine rt ?_
     exact ⟨rfl, XF⟩
   | true =>
    obtain rfl := hpq rfl
    clear hpq
    cases rm
    all_goals
     simp only [if_true, if_false, Bool.false_eq_true, Bool.and_true, Bool.and_false, Bool.not_true, Bool.not_false] at hst hov
     subst hst hov
     by_cases hon : on = xn.no
     ·cases was
      ·refine rt ?_
       exact ⟨rfl, XF⟩
      ·by_cases hl1 : nos.length = 1
       ·refine rt ?_
        exact ⟨rfl, XF⟩
       ·refine rt ?_
        exact ⟨rfl, XF⟩
     ·refine rt ?_
      exact ⟨rfl, XF⟩
  ·have hst : st = if q then (if rm then 0 else 4) else 3 := by rw [hst, hq]; rfl
   have hpq : nos.length = 1 → p = q := fun h => by
    obtain ⟨y, rfl⟩ : ∃ y, ans = [y] := List.length_eq_one_iff.1 (by rw [hlen]; exact h)
    rw [hp, hq]; simp
   rw [← hq] at hov
   generalize Go.Sg.sNo so = on
   generalize so.isSome = was
   clear hp hq h1 h2 h3 hjl hlen hqu1 hAu1 hans
   cases q with
   | false =>
    simp only [if_true, if_false, Bool.false_eq_true, Bool.and_true, Bool.and_false, Bool.not_true, Bool.not_false] at hst
    subst hst
    clear hov
    by_cases hon : on = xn.no
    ·cases was
     ·refine rt ?_
      exact ⟨rfl, XF⟩
     ·by_cases hl1 : nos.length = 1
      ·obtain rfl := hpq hl1
       refine rt ?_
       exact ⟨rfl, XF⟩
      ·refine rt ?_
       exact ⟨rfl, XF⟩
    ·refine rt ?_
     exact ⟨rfl, XF⟩
   | true =>
    cases rm
    all_goals
     simp only [if_true, if_false, Bool.false_eq_true, Bool.and_true, Bool.and_false, Bool.not_true, Bool.not_false] at hst hov
     subst hst hov
     by_cases hon : on = xn.no
     ·cases was
      ·refine rt ?_
       exact ⟨rfl, XF⟩
      ·by_cases hl1 : nos.length = 1
       ·obtain rfl := hpq hl1
        refine rt ?_
        exact ⟨rfl, XF⟩
       ·refine rt ?_
        exact ⟨rfl, XF⟩
     ·refine rt ?_
      exact ⟨rfl, XF⟩
end Go.Sg
end
