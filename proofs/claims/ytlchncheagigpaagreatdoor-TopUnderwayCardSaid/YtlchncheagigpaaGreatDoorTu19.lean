/- Parts of this project: JudP, JudF, JudA. -/
import Derived.Test.YtlchncheagigpaaGreatDoorTu18
set_option maxHeartbeats 32000000
set_option linter.unusedSimpArgs false
set_option linter.unusedVariables false
set_option linter.unusedSectionVars false
section
set_option maxRecDepth 4000
namespace Go.Jud
open Go.Rn Go.Rec Go.Pol Go.Und Go.Doc Go.Per Go.Bud
theorem std_none {c : Ct} (hC : OkC c) (hle : c.d.d.at_ ≤ c.at_) (h : stdV c.at_ c.kn c.r.vs = none) : judgesP c = [] ∧ modeP c = 0 := by
 have hm : metF c.d.d.at_ c.at_ c.kn c.r.vs = [] := met_nil (metF_inv hC.r.v c.d.d.at_ c.kn) (keysF c.d.d.at_ c.kn c.r.vs) hle h
 unfold judgesP modeP nosF
 rw [hm]
 exact ⟨List.length_eq_zero_iff.1 (by rw [srtI_len]; rfl), rfl⟩
theorem old_iff {c : Ct} (hC : OkC c) (hle : c.d.d.at_ ≤ c.at_) : oldF c.d.d.at_ c.at_ c.kn c.r.vs = true ↔ c.d.d.at_ ∈ (ksF c.d.d.at_ c.kn c.r.vs).filter fun k => decide (k ≤ c.at_) := by
 unfold oldF
 rw [List.any_eq_true, List.mem_filter]
 constructor
 ·rintro ⟨k, hk, h⟩
  rw [Bool.and_eq_true, decide_eq_true_eq, decide_eq_true_eq] at h
  obtain ⟨ha, e⟩ := h
  rw [e] at hk ha
  exact ⟨hk, by simpa using ha⟩
 ·rintro ⟨h1, h2⟩
  exact ⟨_, h1, by simpa using h2⟩
theorem old_some {c : Ct} (hC : OkC c) (hle : c.d.d.at_ ≤ c.at_) {y : Vs} (h : stdV c.d.d.at_ c.kn c.r.vs = some y) : oldF c.d.d.at_ c.at_ c.kn c.r.vs = true ∧ ∃ r, metF c.d.d.at_ c.at_ c.kn c.r.vs = y :: r := by
 have hI := metF_inv hC.r.v c.d.d.at_ c.kn
 have hK := keysF c.d.d.at_ c.kn c.r.vs
 have hin : c.d.d.at_ ∈ (ksF c.d.d.at_ c.kn c.r.vs).filter fun k => decide (k ≤ c.at_) := by
  have h1 := (hI.some_ c.d.d.at_ y (Int.le_refl _) h).1
  have hky : keyV Vs.at_ c.d.d.at_ y = c.d.d.at_ := by unfold keyV; rw [if_pos (hI.at_le _ _ h)]
  rw [hky] at h1
  rw [List.mem_filter, hK.mem, h1]
  exact ⟨rfl, by simpa using hle⟩
 obtain ⟨y', h1, r, h2⟩ := (met_old hI hK hle).1 hin
 have e : stdV c.d.d.at_ c.kn c.r.vs = some y' := h1
 rw [h] at e; cases e
 exact ⟨(old_iff hC hle).2 hin, r, h2⟩
theorem old_none {c : Ct} (hC : OkC c) (hle : c.d.d.at_ ≤ c.at_) (h : stdV c.d.d.at_ c.kn c.r.vs = none) : oldF c.d.d.at_ c.at_ c.kn c.r.vs = false := by
 cases ho : oldF c.d.d.at_ c.at_ c.kn c.r.vs with
 | false => rfl
 | true =>
  obtain ⟨y, h1, -⟩ := (met_old (metF_inv hC.r.v c.d.d.at_ c.kn) (keysF c.d.d.at_ c.kn c.r.vs) hle).1 ((old_iff hC hle).1 ho)
  have e : stdV c.d.d.at_ c.kn c.r.vs = some y := h1
  rw [h] at e; cases e
theorem srtI_one (n : Int) : srtI [n] = [n] := by
 have hp := srtI_perm [n]
 exact List.perm_singleton.1 hp
theorem std_some {c : Ct} (hC : OkC c) (hle : c.d.d.at_ ≤ c.at_) {x : Vs} (h : stdV c.at_ c.kn c.r.vs = some x) :
  1 ≤ modeP c ∧ modeP c ≤ 4 ∧ (modeP c = 1 → (stdV c.d.d.at_ c.kn c.r.vs = none ∧ judgesP c = []) ∨ ∃ y, stdV c.d.d.at_ c.kn c.r.vs = some y ∧ judgesP c = [y.no]) ∧ (modeP c = 2 → judgesP c = [x.no]) ∧ (3 ≤ modeP c → judgesP c ≠ []) := by
 have hI := metF_inv hC.r.v c.d.d.at_ c.kn
 have hK := keysF c.d.d.at_ c.kn c.r.vs
 obtain ⟨r, hr⟩ := met_last hI hK hle (t := c.at_) h
 have hr' : metF c.d.d.at_ c.at_ c.kn c.r.vs = r ++ [x] := hr
 have hne : metF c.d.d.at_ c.at_ c.kn c.r.vs ≠ [] := by rw [hr']; simp
 obtain ⟨x', r', hx', hxm, hmode, hm1, hm4⟩ := modeF_ok hC.r.v hne
 have hxx : x' = x := by
  have := hx'.symm.trans hr'
  have := congrArg List.getLast? this
  simpa using this
 subst hxx
 have hmd : modeP c = x'.pol.mode := hmode
 refine ⟨by omega, by omega, fun h1 => ?_, fun h2 => ?_, fun h3 => ?_⟩
 ·unfold modeP at h1
  cases hs : stdV c.d.d.at_ c.kn c.r.vs with
  | none =>
   left
   refine ⟨rfl, ?_⟩
   unfold judgesP nosF
   rw [h1, old_none hC hle hs]
   exact List.length_eq_zero_iff.1 (by rw [srtI_len]; rfl)
  | some y =>
   right
   obtain ⟨ho, r2, hm⟩ := old_some hC hle hs
   refine ⟨y, rfl, ?_⟩
   unfold judgesP nosF
   rw [h1, ho]
   unfold judP
   rw [if_pos rfl, if_pos rfl, hm]
   exact srtI_one _
 ·unfold modeP at h2
  unfold judgesP nosF
  rw [h2, hr']
  unfold judP
  rw [if_neg (by decide), if_pos rfl]
  simp only [List.length_append, List.length_singleton, Nat.add_sub_cancel, List.drop_left, List.map_cons, List.map_nil]
  exact srtI_one _
 ·unfold modeP at h3
  unfold judgesP nosF
  unfold judP
  rw [if_neg (by omega), if_neg (by omega)]
  intro e
  have := congrArg List.length e
  rw [srtI_len, List.length_map, hr'] at this
  simp at this
def aloneV (x : Vs) : Vs := { x with at_ := 0, known := 0, pol := { x.pol with mode := 2 } }
def aloneL (l : List Vs) (no : Int) : List Vs := (l.filter fun x => decide (x.no = no)).map aloneV
theorem goodV_no : ∀ {l : List Vs} {last : Int}, goodV last l = true → l.Pairwise fun x y => x.no < y.no
 | [], _, _ => .nil
 | x :: l, last, h => by
  simp only [goodV, Bool.and_eq_true] at h
  exact .cons (fun y hy => (goodV_mem h.2.2.2.2 y hy).2.2.2.1) (goodV_no h.2.2.2.2)
theorem filter_no : ∀ {l : List Vs} {x : Vs}, l.Pairwise (fun x y => x.no < y.no) → x ∈ l → l.filter (fun y => decide (y.no = x.no)) = [x]
 | z :: l, x, h, hx => by
  obtain ⟨h1, h2⟩ := List.pairwise_cons.1 h
  rcases List.mem_cons.1 hx with rfl | hx
  ·rw [List.filter_cons, if_pos (by simp)]
   congr 1
   rw [List.filter_eq_nil_iff]
   intro y hy
   have := h1 y hy
   simp; omega
  ·rw [List.filter_cons, if_neg (by have := h1 x hx; simp; omega)]
   exact filter_no h2 hx
theorem alone_one {c : Ct} (hC : OkC c) {no : Int} {x : Vs} (h : polP c.r.vs no = some x) : aloneL c.r.vs no = [aloneV x] := by
 have hx := List.mem_of_find?_eq_some h
 have hn : x.no = no := by have := List.find?_some h; simpa using this
 unfold aloneL
 rw [← hn, filter_no (goodV_no (ckAll_in hC.r.v).2) hx]; rfl
def aloneR (r : Rg) (x : Vs) (u : Option Addr) (k : Nat) : Rg := { r with vs := [aloneV x], vu := u, vc := k }
def aloneC (c : Ct) (x : Vs) (u : Option Addr) (k : Nat) : Ct := { c with r := aloneR c.r x u k }
theorem alone_check {p : Po} (h : checkP p = true) : checkP { p with mode := 2 } = true := by
 unfold checkP okP formB form1 at h ⊢
 simp only [Bool.and_eq_true, decide_eq_true_eq] at h ⊢
 exact ⟨⟨h.1.1, h.1.2.1, ⟨h.1.2.2.1.1, h.1.2.2.1.2.1, by decide⟩, h.1.2.2.2⟩, h.2⟩
theorem alone_ok {c : Ct} (hC : OkC c) {no : Int} {x : Vs} (h : polP c.r.vs no = some x) (u : Option Addr) (k : Nat) : OkC (aloneC c x u k) := by
 have hx := List.mem_of_find?_eq_some h
 have hg := goodV_mem (ckAll_in hC.r.v).2 x hx
 refine ⟨⟨hC.r.a, hC.r.d, hC.r.i, hC.r.b, ?_, hC.r.k, hC.r.n⟩, hC.m, hC.t, hC.k⟩
 show ckAll [aloneV x] = true
 have hc := alone_check hg.1
 have h1 : goodV (-1) [aloneV x] = true := by
  unfold goodV
  have e1 : decide ((-1 : Int) + 1 ≤ (aloneV x).no ∧ (aloneV x).no ≤ 1048576) = true := decide_eq_true ⟨by have := hg.2.2.2.1; show (-1 : Int) + 1 ≤ x.no; omega, hg.2.2.2.2⟩
  have e2 : checkP (aloneV x).pol = true := hc
  rw [e1, e2]; rfl
 unfold ckAll
 rw [h1]; rfl
theorem alone_std (c : Ct) (x : Vs) (u : Option Addr) (k : Nat) (ht : 0 ≤ c.at_) (hk : 0 ≤ c.kn) : stdV (aloneC c x u k).at_ (aloneC c x u k).kn (aloneC c x u k).r.vs = some (aloneV x) := by
 show List.foldl _ none [aloneV x] = _
 rw [List.foldl_cons, List.foldl_nil]
 unfold standStep
 rw [if_pos ⟨ht, hk⟩]
theorem alone_mode {c : Ct} (hC : OkC c) (hle : c.d.d.at_ ≤ c.at_) {no : Int} {x : Vs} (h : polP c.r.vs no = some x) (u : Option Addr) (k : Nat) : modeP (aloneC c x u k) = 2 := by
 have hA := alone_ok hC h u k
 have hs := alone_std c x u k hC.t.1 hC.k.1
 obtain ⟨r, hr⟩ := met_last (metF_inv hA.r.v (aloneC c x u k).d.d.at_ (aloneC c x u k).kn) (keysF _ _ _) hle (t := (aloneC c x u k).at_) hs
 have hr' : metF (aloneC c x u k).d.d.at_ (aloneC c x u k).at_ (aloneC c x u k).kn (aloneC c x u k).r.vs = r ++ [aloneV x] := hr
 unfold modeP modeF
 rw [hr']
 simp [aloneV]
theorem alone_answ {c : Ct} {no : Int} {x : Vs} (h : polP c.r.vs no = some x) (u : Option Addr) (k : Nat) : answP (aloneC c x u k) no = answP c no := by
 have hn : x.no = no := by have := List.find?_some h; simpa using this
 have h2 : polP (aloneC c x u k).r.vs no = some (aloneV x) := by
  show List.find? _ [aloneV x] = _
  exact List.find?_cons_of_pos (decide_eq_true (p := (aloneV x).no = no) hn)
 rw [answ_eq h2, answ_eq h]
 rfl
theorem alone_state {c : Ct} (hC : OkC c) {sg : List Int} {us : List Us} (hcl : closedP c sg = false) (hlk : lacksP c sg = false) {no : Int} {x : Vs} (h : polP c.r.vs no = some x) (u : Option Addr) (k : Nat) :
  stateP (aloneC c x u k) sg us = if answP c no then (if roomP c us then 0 else 4) else 3 := by
 have hle : c.d.d.at_ ≤ c.at_ := by
  have := hcl
  unfold closedP at this
  rw [Bool.or_eq_false_iff, decide_eq_false_iff_not] at this
  omega
 have hn : x.no = no := by have := List.find?_some h; simpa using this
 have hA := alone_ok hC h u k
 have hm := alone_mode hC hle h u k
 have hj := (std_some hA hle (alone_std c x u k hC.t.1 hC.k.1)).2.2.2.1 hm
 have hj' : judgesP (aloneC c x u k) = [no] := by rw [hj, ← hn]; rfl
 have ha : askP (aloneC c x u k) = answP c no := by
  unfold askP
  rw [hm, hj', if_neg (by decide), List.map_cons, List.map_nil, alone_answ h]
  cases answP c no <;> rfl
 have e1 : closedP (aloneC c x u k) sg = false := hcl
 have e2 : lacksP (aloneC c x u k) sg = false := hlk
 have e3 : roomP (aloneC c x u k) us = roomP c us := rfl
 unfold stateP
 rw [e1, e2, ha, e3]
 cases answP c no <;> cases roomP c us <;> rfl
def begF (doc : Int) (l : List Dk) : Int := l.foldl (fun b x => if x.d.no = doc then x.d.at_ else b) 0
theorem begF_none (doc : Int) : ∀ (l : List Dk) (b : Int), (∀ x ∈ l, x.d.no ≠ doc) → l.foldl (fun b x => if x.d.no = doc then x.d.at_ else b) b = b
 | [], b, _ => rfl
 | x :: l, b, h => by
  rw [List.foldl_cons, if_neg (h x List.mem_cons_self)]
  exact begF_none doc l b fun y hy => h y (List.mem_cons_of_mem _ hy)
theorem begF_at (doc : Int) : ∀ (l : List Dk) (b : Int) (d : Dk), (l.map Dk.d).Pairwise (fun x y => x.no < y.no) → l.find? (fun d => decide (d.d.no = doc)) = some d → l.foldl (fun b x => if x.d.no = doc then x.d.at_ else b) b = d.d.at_
 | [], b, d, _, h => by cases h
 | x :: l, b, d, hp, h => by
  rw [List.map_cons] at hp
  obtain ⟨h1, h2⟩ := List.pairwise_cons.1 hp
  rw [List.foldl_cons]
  by_cases hx : x.d.no = doc
  ·rw [List.find?_cons_of_pos (by simpa using hx)] at h
   cases h
   rw [if_pos hx]
   exact begF_none doc l _ fun y hy => by have := h1 y.d (List.mem_map.2 ⟨y, hy, rfl⟩); omega
  ·rw [List.find?_cons_of_neg (by simpa using hx)] at h
   rw [if_neg hx]
   exact begF_at doc l b d h2 h
theorem begF_ok {c : Ct} (hC : OkC c) {doc : Int} {d : Dk} (h : docP c.r doc = some d) : begF doc c.r.ds = d.d.at_ :=
 begF_at doc c.r.ds 0 d (chkDoc_in hC.r.k).2.2 h
end Go.Jud
end
section
set_option maxRecDepth 4000
namespace Go.Jud
open Go.Rn Go.Rec Go.Pol Go.Und Go.Doc Go.Per Go.Bud Go.Off Go.Dep Go.Itr Go.Apv
structure PolIn (p : Po) : Prop where
  ns : p.name.size < 9223372036854775808
  ks : ∀ s ∈ p.kinds, s.size < 9223372036854775808
  os : ∀ s ∈ p.offices, s.size < 9223372036854775808
structure RegIn (w : World) (N : Nat) (r : Rg) : Prop where
  ap : IsL w Ap.cells 7 (.slice r.au r.ap.length r.ac) r.ap
  dp : IsL w Dp.cells 10 (.slice r.du r.dp.length r.dc) r.dp
  it : IsL w It.cells 7 (.slice r.iu r.it.length r.ic) r.it
  bg : IsL w Bg.cells 8 (.slice r.bu r.bg.length r.bc) r.bg
  vs : IsL w Vs.cells 13 (.slice r.vu r.vs.length r.vc) r.vs
  ds : IsL w Dk.cells 41 (.slice r.ku r.ds.length r.kc) r.ds
  av : IsL w Av.cells 8 (.slice r.nu r.av.length r.nc) r.av
  hp : ∀ x ∈ r.vs, HoldP w N x.pol
  hw : ∀ x ∈ r.vs, PolIn x.pol
  hn : N ≤ w.heap.size
  hd : ∀ x ∈ r.ds, IsL w Go.Sg.intC 1 (.slice x.pa x.d.parties.length x.pc) x.d.parties ∧ IsL w Go.Sg.intC 1 (.slice x.ra x.d.revokes.length x.rc) x.d.revokes ∧ IsL w Go.Sg.intC 1 (.slice x.na x.d.needs.length x.nc) x.d.needs
theorem RegIn.up {w w' : World} {N : Nat} {r : Rg} (h : RegIn w N r) (e : Ext w w') : RegIn w' N r :=
  ⟨h.ap.up e, h.dp.up e, h.it.up e, h.bg.up e, h.vs.up e, h.ds.up e, h.av.up e, fun x hx => (h.hp x hx).up e, h.hw, Nat.le_trans h.hn e.size, fun x hx => ⟨(h.hd x hx).1.up e, (h.hd x hx).2.1.up e, (h.hd x hx).2.2.up e⟩⟩
structure FewV (p : Po) : Prop where
  k : p.kinds.length ≤ 20
  o : p.offices.length ≤ 40
  r : p.rules.length ≤ 20
  c : numE p.change ≤ 40
  e : ∀ x ∈ p.rules, numE x.ex ≤ 40
structure FewR (r : Rg) : Prop where
  al : r.ap.length ≤ 30
  dl : r.dp.length ≤ 12
  il : r.it.length ≤ 12
  bl : r.bg.length ≤ 12
  vl : r.vs.length ≤ 5
  kl : r.ds.length ≤ 8
  nl : r.av.length ≤ 24
  v : ∀ x ∈ r.vs, FewV x.pol
  d : ∀ x ∈ r.ds, x.d.parties.length ≤ 20 ∧ x.d.revokes.length ≤ 20 ∧ x.d.needs.length ≤ 20
theorem RegIn.hold {w : World} {N : Nat} {r : Rg} (h : RegIn w N r) (f : FewR r) : HoldR w N r :=
  ⟨h.ap, h.dp, h.it, h.bg, h.vs, h.ds, h.av, ⟨fun x hx => ⟨(f.v x hx).k, (f.v x hx).o, (f.v x hx).r, (f.v x hx).c, (f.v x hx).e, (h.hw x hx).ns, (h.hw x hx).ks, (h.hw x hx).os⟩, h.hp, h.hn⟩,
   fun x hx => ⟨(h.hd x hx).1, (h.hd x hx).2.1, (h.hd x hx).2.2, by have := (f.d x hx).1; omega, by have := (f.d x hx).2.1; omega, by have := (f.d x hx).2.2; omega⟩, f.al, f.dl, f.il, f.bl, f.vl, f.kl, f.nl⟩
theorem numL_take {l : List Ex} {i : Nat} {x : Ex} (hx : l[i]? = some x) : numL (l.take (i + 1)) = numL (l.take i) + numE x := by
  have key : ∀ a : List Ex, numL (a ++ [x]) = numL a + numE x := by
    intro a
    induction a with
    | nil => rw [List.nil_append, numL_cons, numL_nil]; omega
    | cons y a ih => rw [List.cons_append, numL_cons, numL_cons, ih]; omega
  rw [List.take_add_one, hx]
  exact key _
end Go.Jud
namespace Go.Sg
open Go.Rn Go.Proofs Go.Rec Go.RowKit Go.Jud Go.Doc Go.Pol Go.Apv Go.Best Go.Und Go.Off Go.Per Go.Bud
attribute [local irreducible] Go.Rn.RetsX Go.Rn.RunLN Go.Rn.AsyN Go.Rn.RunL Go.Rn.RunE Go.Rn.Asy Go.Rn.OpV Go.Rn.OpE Go.Rn.ExecE
theorem parts30_ok : ∀ (m : Nat) (lim : Int) (x : Ex) (N : Nat) (w : World), 0 ≤ lim → lim ≤ (m : Int) → m ≤ 1000 → HoldE w N x →
    Rets Tryz.prog 56 [exV x, .int .i64 lim] w fun r w' => (∃ k : Int, r = .int .i64 k ∧ 1 ≤ k ∧ k ≤ lim + 1 ∧ (k ≤ lim → k = (numE x : Int))) ∧ Ext w w' := by
  intro m
  induction m with
  | zero =>
    intro lim x N w h0 h1 hm hH
    obtain rfl : lim = 0 := by omega
    refine en Tryz.func56 31 fun hf_ => ?_
    refine g1 (cs := x.cells) fun B2 w1 E1 G1 Z1 => ?_
    refine g ?_
    refine RunE.loop (ι := Unit) (fun _ => [(1, .int .i64 0), (2, .pointer (some ⟨B2, 0, none⟩)), (5, .int .i64 1), (6, .int .i64 0)]) (fun _ w' => Ext w1 w') (fun _ => 0) () sb_ (ExtB.refl _ _) ?_
    rintro ⟨⟩ w2 E2 again
    have Z2 := Z1.up E2
    by_cases hl : (0 : Int) < (x.l.length : Int)
    · refine rt ?_
      exact ⟨⟨1, rfl, by decide, by decide, fun h => by omega⟩, xt⟩
    · refine rt ?_
      exact ⟨⟨1, rfl, by decide, by decide, fun h => by omega⟩, xt⟩
  | succ m ih =>
    intro lim x N w h0 h1 hm hH
    refine en Tryz.func56 31 fun hf_ => ?_
    refine g1 (cs := x.cells) fun B2 w1 E1 G1 Z1 => ?_
    refine g ?_
    refine RunE.loop (ι := Nat × Int) (fun s => [(1, .int .i64 lim), (2, .pointer (some ⟨B2, 0, none⟩)), (5, .int .i64 s.2), (6, .int .i64 (s.1 : Int))])
      (fun s w' => Ext w1 w' ∧ s.1 ≤ x.l.length ∧ (s.1 : Int) + 1 ≤ s.2 ∧ s.2 ≤ lim + 1 ∧ (s.2 ≤ lim → s.2 = 1 + (numL (x.l.take s.1) : Int))) (fun s => x.l.length - s.1) (0, 1) sb_ ⟨ExtB.refl _ _, Nat.zero_le _, by decide, by simp only; omega, fun _ => by simp [numL_nil]⟩ ?_
    rintro ⟨i, n⟩ w2 ⟨E2, hi, hn1, hn2, hn3⟩ again
    simp only at hi hn1 hn2 hn3 again ⊢
    have X2 : Ext w w2 := E1.trans E2
    have Z2 := Z1.up E2
    by_cases hlt : i < x.l.length
    · by_cases hnl : n ≤ lim
      · obtain ⟨b, o, cap, hve, hr, -⟩ := isL_held (hH.up X2).list hlt
        obtain ⟨y, hy⟩ : ∃ y, x.l[i]? = some y := ⟨_, List.getElem?_eq_getElem hlt⟩
        have hry := flat_row encEx hr hy
        have hu : x.u = some ⟨b, o, none⟩ := by injection hve
        have hHy := (hH.up X2).kids y (List.mem_of_getElem? hy)
        have Zl : Blk w2 B2 [.int .i64 x.kind, .int .i64 x.n, .int .i64 x.no, .string x.name, .slice (some ⟨b, o, none⟩) x.l.length x.c] 78 := by rw [← hu]; exact Z2
        clear Z2 Z1
        refine g ?_
        refine gc (ih (lim - n) y N w2 (by omega) (by omega) (by omega) hHy) ?_
        rintro _ w3 ⟨⟨k, rfl, k1, k2, k3⟩, E3⟩
        refine g ?_
        refine RunE.weaken sb_ (again (i + 1, n + k) w3 (by simp only; omega) ⟨E2.trans E3, by simp only; omega, by simp only; omega, by simp only; omega, fun h => ?_⟩)
        simp only at h ⊢
        rw [numL_take hy]
        have := hn3 hnl
        have := k3 (by omega)
        omega
      · refine rt ?_
        exact ⟨⟨n, rfl, by omega, hn2, fun h => absurd h hnl⟩, X2⟩
    · obtain rfl : i = x.l.length := by omega
      rw [List.take_length] at hn3
      refine rt ?_
      refine ⟨⟨n, rfl, by omega, hn2, fun h => ?_⟩, X2⟩
      rw [numE_eq, hn3 h]; omega
def FewVs (l : List Vs) : Prop := ∀ x ∈ l, FewV x.pol
theorem fewVersions_ok (l : List Vs) (v : Value) (N : Nat) (w : World) (hv : IsL w Vs.cells 13 v l) (hp : ∀ x ∈ l, HoldP w N x.pol) :
    Rets Tryz.prog 23 [v] w fun r w' => (∃ b, r = .bool b ∧ (b = true → l.length ≤ 5 ∧ FewVs l)) ∧ Ext w w' := by
  obtain ⟨d, cp, rfl⟩ := isSl_slice hv
  refine en Tryz.func23 57 fun hf_ => ?_
  by_cases h5 : l.length ≤ 5
  case neg =>
    refine rt ?_
    exact ⟨⟨false, rfl, fun h => by cases h⟩, xt⟩
  refine g ?_
  refine RunE.loop (ι := Nat) (fun i => [(0, .slice d l.length cp), (3, .int .i64 (i : Int))]) (fun i w' => i ≤ l.length ∧ Ext w w' ∧ ∀ x ∈ l.take i, FewV x.pol) (fun i => l.length - i) 0 sb_ ⟨Nat.zero_le _, ExtB.refl _ _, fun x h => by simp at h⟩ ?_
  rintro i w1 ⟨hi, X1, hf⟩ again
  by_cases hlt : i < l.length
  case neg =>
    obtain rfl : i = l.length := by omega
    rw [List.take_length] at hf
    refine rt ?_
    exact ⟨⟨true, rfl, fun _ => ⟨h5, hf⟩⟩, X1⟩
  obtain ⟨b, o, cap, hve, hr, -⟩ := isL_held (hv.up X1) hlt
  obtain ⟨x, hx⟩ : ∃ x, l[i]? = some x := ⟨_, List.getElem?_eq_getElem hlt⟩
  have hrx := flat_row encVs hr hx
  have hrp : Row w1 b (o + i * 13 + 3) x.pol.cells := hrx.drop 3
  cases hve
  have hxm := List.mem_of_getElem? hx
  have hP := hp x hxm
  refine g1 (cs := x.pol.cells) fun B4 w2 E2 G4 Z4 => ?_
  have X2 : Ext w w2 := X1.trans E2
  have no : ∀ w', Ext w w' → (∃ b, Value.bool false = .bool b ∧ (b = true → l.length ≤ 5 ∧ FewVs l)) ∧ Ext w w' := fun w' e => ⟨⟨false, rfl, fun h => by cases h⟩, e⟩
  by_cases c1 : x.pol.kinds.length ≤ 20
  case neg =>
    refine rt ?_
    exact no _ X2
  by_cases c2 : x.pol.offices.length ≤ 40
  case neg =>
    refine rt ?_
    exact no _ X2
  by_cases c3 : x.pol.rules.length ≤ 20
  case neg =>
    refine rt ?_
    exact no _ X2
  have Zc : Row w2 B4 4 x.pol.change.cells := Z4.sub [.string x.pol.name, .slice x.pol.ku x.pol.kinds.length x.pol.kc, .slice x.pol.ou x.pol.offices.length x.pol.oc, .slice x.pol.ru x.pol.rules.length x.pol.rc] [.int .i64 x.pol.mode] rfl
  refine g ?_
  refine gc (parts30_ok 40 40 x.pol.change N w2 (by decide) (by decide) (by decide) (hP.up X2).ch) ?_
  rintro _ w3 ⟨⟨k, rfl, k1, k2, k3⟩, E3⟩
  have X3 : Ext w w3 := X2.trans E3
  by_cases c4 : k ≤ 40
  case neg =>
    refine rt ?_
    exact no _ X3
  have Z43 := Z4.up E3
  refine g ?_
  refine RunE.loop (ι := Nat) (fun j => [(0, .slice (some ⟨b, o, none⟩) l.length cp), (3, .int .i64 (i : Int)), (4, .pointer (some ⟨B4, 0, none⟩)), (5, .int .i64 (j : Int))]) (fun j w' => j ≤ x.pol.rules.length ∧ Ext w3 w' ∧ ∀ y ∈ x.pol.rules.take j, numE y.ex ≤ 40) (fun j => x.pol.rules.length - j) 0 sb_ ⟨Nat.zero_le _, ExtB.refl _ _, fun x h => by simp at h⟩ ?_
  rintro j w4 ⟨hj, E4, hfj⟩ again2
  have X4 : Ext w w4 := X3.trans E4
  by_cases hjl : j < x.pol.rules.length
  case neg =>
    obtain rfl : j = x.pol.rules.length := by omega
    rw [List.take_length] at hfj
    have hk := k3 c4
    refine g ?_
    refine RunE.weaken sb_ (again (i + 1) w4 (by omega) ⟨by omega, X4, fun y hy => ?_⟩)
    rw [List.take_add_one, hx] at hy
    rcases List.mem_append.1 hy with hy | hy
    · exact hf y hy
    · have hy : y = x := by simpa using hy
      subst hy
      exact ⟨c1, c2, c3, by omega, hfj⟩
  obtain ⟨rb, ro, rcap, hve2, hr2, -⟩ := isL_held (hP.up X4).r hjl
  obtain ⟨y, hy⟩ : ∃ y, x.pol.rules[j]? = some y := ⟨_, List.getElem?_eq_getElem hjl⟩
  have hry := flat_row encRu hr2 hy
  have hre : Row w4 rb (ro + j * 8 + 3) y.ex.cells := hry.drop 3
  have hu : x.pol.ru = some ⟨rb, ro, none⟩ := by injection hve2
  have Z44 := Z43.up E4
  have Zl : Blk w4 B4 [.string x.pol.name, .slice x.pol.ku x.pol.kinds.length x.pol.kc, .slice x.pol.ou x.pol.offices.length x.pol.oc, .slice (some ⟨rb, ro, none⟩) x.pol.rules.length x.pol.rc, .int .i64 x.pol.change.kind, .int .i64 x.pol.change.n, .int .i64 x.pol.change.no, .string x.pol.change.name, .slice x.pol.change.u x.pol.change.l.length x.pol.change.c, .int .i64 x.pol.mode] 80 := by rw [← hu]; exact Z44
  clear Z44 Z43 Z4 Zc
  refine g ?_
  refine gc (parts30_ok 40 40 y.ex N w4 (by decide) (by decide) (by decide) ((hP.up X4).re y (List.mem_of_getElem? hy))) ?_
  rintro _ w5 ⟨⟨q, rfl, q1, q2, q3⟩, E5⟩
  have X5 : Ext w w5 := X4.trans E5
  by_cases c5 : q ≤ 40
  case neg =>
    refine rt ?_
    exact no _ X5
  have hq := q3 c5
  refine g ?_
  refine RunE.weaken sb_ (again2 (j + 1) w5 (by omega) ⟨by omega, E4.trans E5, fun z hz => ?_⟩)
  rw [List.take_add_one, hy] at hz
  rcases List.mem_append.1 hz with hz | hz
  · exact hfj z hz
  · have hz : z = y := by simpa using hz
    subst hz; omega
theorem few30_ok (r : Rg) (N : Nat) (w : World) (hI : RegIn w N r) : Rets Tryz.prog 5 [rgV r] w fun v w' => (∃ b, v = .bool b ∧ (b = true → FewR r)) ∧ Ext w w' := by
  refine en Tryz.func5 79 fun hf_ => ?_
  refine g1 (cs := r.cells) fun B1 w1 E1 G1 Z1 => ?_
  have no : ∀ w', Ext w w' → (∃ b, Value.bool false = .bool b ∧ (b = true → FewR r)) ∧ Ext w w' := fun w' e => ⟨⟨false, rfl, fun h => by cases h⟩, e⟩
  by_cases c0 : r.ap.length ≤ 30
  case neg =>
    refine rt ?_
    exact no _ E1
  by_cases c1 : r.dp.length ≤ 12
  case neg =>
    refine rt ?_
    exact no _ E1
  by_cases c2 : r.it.length ≤ 12
  case neg =>
    refine rt ?_
    exact no _ E1
  by_cases c3 : r.bg.length ≤ 12
  case neg =>
    refine rt ?_
    exact no _ E1
  by_cases c4 : r.ds.length ≤ 8
  case neg =>
    refine rt ?_
    exact no _ E1
  by_cases c5 : r.av.length ≤ 24
  case neg =>
    refine rt ?_
    exact no _ E1
  refine g ?_
  refine gc (fewVersions_ok r.vs _ N w1 (hI.up E1).vs (hI.up E1).hp) ?_
  rintro _ w2 ⟨⟨bb, rfl, hb⟩, E2⟩
  have X2 : Ext w w2 := E1.trans E2
  cases bb with
  | false =>
    refine rt ?_
    exact no _ X2
  | true =>
  obtain ⟨h5, hfv⟩ := hb rfl
  have Z2 := Z1.up E2
  refine g ?_
  refine RunE.loop (ι := Nat) (fun i => [(1, .pointer (some ⟨B1, 0, none⟩)), (3, .int .i64 (i : Int))]) (fun i w' => i ≤ r.ds.length ∧ Ext w2 w' ∧ ∀ x ∈ r.ds.take i, x.d.parties.length ≤ 20 ∧ x.d.revokes.length ≤ 20 ∧ x.d.needs.length ≤ 20) (fun i => r.ds.length - i) 0 sb_ ⟨Nat.zero_le _, ExtB.refl _ _, fun x h => by simp at h⟩ ?_
  rintro i w3 ⟨hi, E3, hf⟩ again
  have X3 : Ext w w3 := X2.trans E3
  have Z3 := Z2.up E3
  by_cases hlt : i < r.ds.length
  case neg =>
    obtain rfl : i = r.ds.length := by omega
    rw [List.take_length] at hf
    refine rt ?_
    exact ⟨⟨true, rfl, fun _ => ⟨c0, c1, c2, c3, h5, c4, c5, hfv, hf⟩⟩, X3⟩
  obtain ⟨b, o, cap, hve, hr, -⟩ := isL_held (hI.up X3).ds hlt
  obtain ⟨x, hx⟩ : ∃ x, r.ds[i]? = some x := ⟨_, List.getElem?_eq_getElem hlt⟩
  have hrx := flat_row encDk hr hx
  have hu : r.ku = some ⟨b, o, none⟩ := by injection hve
  have Zl : Blk w3 B1 [.slice r.au r.ap.length r.ac, .slice r.du r.dp.length r.dc, .slice r.iu r.it.length r.ic, .slice r.bu r.bg.length r.bc, .slice r.vu r.vs.length r.vc, .slice (some ⟨b, o, none⟩) r.ds.length r.kc, .slice r.nu r.av.length r.nc] 30 := by rw [← hu]; exact Z3
  have q6 : Row w3 b (o + i * 41 + 6) [.slice x.pa x.d.parties.length x.pc] := fun j v hv => by
    cases j with
    | zero => exact hrx 6 v hv
    | succ j => simp at hv
  have q7 : Row w3 b (o + i * 41 + 7) [.slice x.ra x.d.revokes.length x.rc] := fun j v hv => by
    cases j with
    | zero => exact hrx 7 v hv
    | succ j => simp at hv
  have q8 : Row w3 b (o + i * 41 + 8) [.slice x.na x.d.needs.length x.nc] := fun j v hv => by
    cases j with
    | zero => exact hrx 8 v hv
    | succ j => simp at hv
  clear Z3 hrx
  by_cases d1 : x.d.parties.length ≤ 20
  case neg =>
    refine rt ?_
    exact no _ X3
  by_cases d2 : x.d.revokes.length ≤ 20
  case neg =>
    refine rt ?_
    exact no _ X3
  by_cases d3 : x.d.needs.length ≤ 20
  case neg =>
    refine rt ?_
    exact no _ X3
  refine g ?_
  refine RunE.weaken sb_ (again (i + 1) w3 (by omega) ⟨by omega, E3, fun y hy => ?_⟩)
  rw [List.take_add_one, hx] at hy
  rcases List.mem_append.1 hy with hy | hy
  · exact hf y hy
  · have hy : y = x := by simpa using hy
    subst hy; exact ⟨d1, d2, d3⟩
theorem sameI_ok (l : List Int) (u v : Value) (w : World) (hl : l.length ≤ 100000) (hu : IsL w intC 1 u l) (hv : IsL w intC 1 v l) : Rets Tryz.prog 8 [u, v] w fun r w' => r = .bool true ∧ Ext w w' := by
  obtain ⟨d1, c1, rfl⟩ := isSl_slice hu
  obtain ⟨d2, c2, rfl⟩ := isSl_slice hv
  refine en Tryz.func8 26 fun hf_ => ?_
  refine g ?_
  refine RunE.loop (ι := Nat) (fun i => [(0, .slice d1 l.length c1), (1, .slice d2 l.length c2), (5, .int .i64 (i : Int))]) (fun i w' => i ≤ l.length ∧ Ext w w') (fun i => l.length - i) 0 sb_ ⟨Nat.zero_le _, ExtB.refl _ _⟩ ?_
  rintro i w1 ⟨hi, X1⟩ again
  by_cases hlt : i < l.length
  · obtain ⟨x, hx⟩ : ∃ x, l[i]? = some x := ⟨_, List.getElem?_eq_getElem hlt⟩
    obtain ⟨b, o, cap, hve, hr, -⟩ := isL_held (hu.up X1) hlt
    obtain ⟨b', o', cap', hve', hr', -⟩ := isL_held (hv.up X1) hlt
    have hrx := flat_row encI hr hx
    have hrx' := flat_row encI hr' hx
    cases hve
    cases hve'
    refine g ?_
    refine RunE.draw (fun _ => False) mix' ?_
    intro wd Xd
    refine ga ?_
    refine Asy.end_ (by decide +kernel) ?_
    intro we Xe
    refine g ?_
    exact RunE.weaken sb_ (again (i + 1) we (by omega) ⟨by omega, X1.trans (Xd.trans Xe)⟩)
  · refine rt ?_
    exact ⟨rfl, X1⟩
end Go.Sg
end
section
set_option maxRecDepth 4000
namespace Go.Jud
open Go.Rn Go.Rec Go.Pol
abbrev rgC (r : Rg) (v : Value) : List Value := [.slice r.au r.ap.length r.ac, .slice r.du r.dp.length r.dc, .slice r.iu r.it.length r.ic, .slice r.bu r.bg.length r.bc, v, .slice r.ku r.ds.length r.kc, .slice r.nu r.av.length r.nc]
theorem aloneL_take {l : List Vs} {i : Nat} {x : Vs} (hx : l[i]? = some x) (no : Int) : aloneL (l.take (i + 1)) no = aloneL (l.take i) no ++ if x.no = no then [aloneV x] else [] := by
 unfold aloneL
 rw [List.take_add_one, hx, List.filter_append, List.map_append]
 by_cases h : x.no = no <;> simp [h]
theorem aloneL_len (l : List Vs) (no : Int) : (aloneL l no).length ≤ l.length := by
 unfold aloneL; rw [List.length_map]; exact List.length_filter_le _ _
end Go.Jud
namespace Go.Sg
open Go.Rn Go.Proofs Go.Rec Go.RowKit Go.Jud Go.Doc Go.Pol
attribute [local irreducible] Go.Rn.RetsX Go.Rn.RunLN Go.Rn.AsyN Go.Rn.RunL Go.Rn.RunE Go.Rn.Asy Go.Rn.OpV Go.Rn.OpE Go.Rn.ExecE
theorem alone30_ok (r : Rg) (no : Int) (N : Nat) (w : World) (hR : HoldR w N r) :
  Rets Tryz.prog 9 [rgV r, .int .i64 no] w fun v w' => (∃ (u : Option Addr) (k : Nat), v = .tuple #[.agg (rgC r (.slice u (aloneL r.vs no).length k)).toArray, .bool (decide ((aloneL r.vs no).length = 1))] ∧ IsL w' Vs.cells 13 (.slice u (aloneL r.vs no).length k) (aloneL r.vs no)) ∧ Ext w w' := by
 have hvl := hR.vl
 refine en Tryz.func9 37 fun hf_ => ?_
 refine g1 (cs := r.cells) fun B2 w1 E1 G1 Z1 => ?_
 refine g ?_
 refine RunL.alloc Tryz.tOk rfl rfl rfl fun B4 w2 a4 => ?_
 have E2 := a4.ext
 have n4 := a4.eq
 have Z4 : Blk w2 B4 [.slice none 0 0, .slice none 0 0, .slice none 0 0, .slice none 0 0, .slice none 0 0, .slice none 0 0, .slice none 0 0] 30 := a4.at_
 clear a4
 have Z2 := Z1.up E2
 have s1 := E1.size
 have l4 := Z4.lt
 have l2 := Z1.lt
 refine g ?_
 refine RunL.storeW (vs := r.cells) Tryz.tOk rfl rfl rfl rfl rfl Z4 rfl rfl fun w3 t3 => ?_
 have Z43 : Blk w3 B4 r.cells 30 := t3.at_
 have T3 : ExtB (fun k => k = B4) w2 w3 := t3.ext
 clear t3
 refine g ?_
 refine RunL.store Tryz.tOk rfl rfl rfl rfl rfl Z43 rfl rfl fun w4 t4 => ?_
 have Z44 : Blk w4 B4 (rgC r (.slice none 0 0)) 30 := t4.at_
 have T4 : ExtB (fun k => k = B4) w2 w4 := T3.trans t4.ext
 clear t4 Z43 T3
 have Z24 := Z2.ext T4 (by omega)
 have s4 := T4.size
 have X4 : Ext w w4 := (E1.trans E2).write T4 (by intro k hk hlt; have hk : k = B4 := hk; omega)
 refine g ?_
 refine rangeL (hR.up X4).vs encVs 11 12 13 (fun _ : Unit => [(1, .int .i64 no), (4, pt B4), (5, .bool false)])
  (fun i _ u => (∃ (d : Option Addr) (k : Nat), Blk u B4 (rgC r (.slice d (aloneL (r.vs.take i) no).length k)) 30 ∧ u.ownsRow w4.heap.size 82 13 (.slice d (aloneL (r.vs.take i) no).length k) (aloneL (r.vs.take i) no).length (flat Vs.cells (aloneL (r.vs.take i) no))) ∧ ExtB (fun k => k = B4 ∨ w4.heap.size ≤ k) w4 u) () sb_
  ⟨⟨none, 0, Z44, World.ownsRow_nil _ _ _ _⟩, ExtB.refl _ _⟩ ?_ ?_
 ·rintro i ⟨⟩ x u hx ⟨⟨d, k, Zu, hO⟩, XU⟩ b o cap hve hrx hlt again
  rw [hve] at again ⊢
  have hvs := (hR.up X4).vs
  have hb0 : b < w4.heap.size ∧ b ≠ B4 := by
   have hne : r.vs ≠ [] := List.ne_nil_of_length_pos (by omega)
   have hob : (Value.slice r.vu r.vs.length r.vc).ownBlock = some b := by rw [hve]; rfl
   have h1 := isL_own hR.vs (by decide) hne hob
   exact ⟨isL_own hvs (by decide) hne hob, by omega⟩
  have hru := hrx.ext XU (by omega)
  have sU := XU.size
  have htk := aloneL_take hx no
  have hal : (aloneL (r.vs.take i) no).length ≤ 5 := Nat.le_trans (aloneL_len _ _) (by rw [List.length_take]; omega)
  rw [htk] at again
  generalize aloneL (r.vs.take i) no = acc at Zu hO again hal
  refine g1 (cs := x.cells) fun B7 u1 F1 G7 Z7 => ?_
  have s5 := F1.size
  have Zu1 := Zu.up F1
  have l7 := Z7.lt
  by_cases hn : x.no = no
  case neg =>
   rw [if_neg hn, List.append_nil] at again
   refine g ?_
   exact RunE.weaken sb_ (again () u1 ⟨⟨d, k, Zu1, ownsRow_ext hO F1 (fun _ _ h => h)⟩, XU.trans (ExtB.of_ext F1)⟩)
  rw [if_pos hn] at again
  have lu := Zu.lt
  refine g ?_
  refine RunL.store Tryz.tOk rfl rfl rfl rfl rfl Z7 rfl rfl fun u2 t2 => ?_
  have Z72 : Blk u2 B7 (Vs.cells ⟨x.no, 0, x.known, x.pol⟩) 82 := t2.at_
  have T2 : ExtB (fun k => k = B7) u1 u2 := t2.ext
  clear t2
  refine g ?_
  refine RunL.store Tryz.tOk rfl rfl rfl rfl rfl Z72 rfl rfl fun u3 t3 => ?_
  have Z73 : Blk u3 B7 (Vs.cells ⟨x.no, 0, 0, x.pol⟩) 82 := t3.at_
  have T3 : ExtB (fun k => k = B7) u1 u3 := T2.trans t3.ext
  clear t3
  refine g ?_
  refine RunL.store Tryz.tOk rfl rfl rfl rfl rfl Z73 rfl rfl fun u4 t4 => ?_
  have Z74 : Blk u4 B7 (aloneV x).cells 82 := t4.at_
  have T4' : ExtB (fun k => k = B7) u1 u4 := T3.trans t4.ext
  clear t4
  have FX : Ext u u4 := F1.write T4' (by intro k hk hlt; have hk : k = B7 := hk; omega)
  have Zu4 := Zu.up FX
  have s6 := FX.size
  refine g ?_
  refine ap1 encVs (aloneV x) hO FX (by omega) (by omega) rfl rfl rfl rfl rfl rfl rfl rfl rfl rfl (fun _ => rfl) rfl (fun _ => rfl) fun q1 y' u5 O5 E5 hown => ?_
  have hab : ∀ k', (Value.slice d acc.length k).ownBlock = some k' → w4.heap.size ≤ k' := fun k' hk => ownsRow_ge hO hk
  obtain ⟨d5, c5, rfl⟩ := isSl_slice (isSl_own O5)
  have Zu5 := Zu.ext E5 (fun h => by have := hab _ h; omega)
  have s7 := E5.size
  refine g ?_
  refine RunL.store Tryz.tOk rfl rfl rfl rfl rfl Zu5 rfl rfl fun u6 t6 => ?_
  have Z6 : Blk u6 B4 (rgC r (.slice d5 (acc.length + 1) c5)) 30 := t6.at_
  have T6 : ExtB (fun k => k = B4) u5 u6 := t6.ext
  clear t6
  have hlen : (acc ++ [aloneV x]).length = acc.length + 1 := by simp
  refine g ?_
  refine RunE.weaken sb_ (again () u6 ⟨⟨d5, c5, by rw [hlen]; exact Z6, ?_⟩, ?_⟩)
  ·rw [hlen, flat_append, flat_one]
   exact ownsRow_ext O5 T6 (fun k' hk h => by have := ownsRow_ge O5 hk; have h : k' = B4 := h; omega)
  ·exact (XU.trans (E5.mono fun k' _ hk => .inr (hab k' hk))).trans (T6.mono fun k' _ hk => .inl hk)
 ·rintro ⟨⟩ u ⟨⟨d, k, Zu, hO⟩, XU⟩
  rw [List.take_length] at Zu hO
  have sU := XU.size
  have XW : Ext w u := X4.write XU (by intro k hk hlt; omega)
  refine g ?_
  refine RunL.storeW (vs := rgC r (.slice d (aloneL r.vs no).length k)) Tryz.tOk rfl rfl rfl rfl rfl Zu rfl rfl fun u1 t1 => ?_
  have Z1' : Blk u1 B4 (rgC r (.slice d (aloneL r.vs no).length k)) 30 := t1.at_
  have T1 : ExtB (fun k => k = B4) u u1 := t1.ext
  clear t1
  have O1 := ownsRow_ext hO T1 (fun k' hk h => by have := ownsRow_ge hO hk; have h : k' = B4 := h; omega)
  have X1 : Ext w u1 := XW.write T1 (by intro k hk hlt; have hk : k = B4 := hk; omega)
  generalize aloneL r.vs no = L at *
  have hb : ((L.length : Int) == 1) = decide (L.length = 1) := by rw [Bool.eq_iff_iff]; simp; omega
  refine g ?_
  exact RunE.retFn hf_ (.cell rfl (Loads.agg Tryz.tOk rfl rfl rfl Z1'.row) (.tmp rfl .nil)) ⟨⟨d, k, by rw [← hb]; rfl, isSl_own O1⟩, X1⟩
end Go.Sg
end
