/- Parts of this project: Jud8, Jud9. -/
import Derived.Test.YtlchncheagigpaaGreatDoorTu17
set_option maxHeartbeats 32000000
set_option linter.unusedSimpArgs false
set_option linter.unusedVariables false
set_option linter.unusedSectionVars false
section
set_option maxRecDepth 4000
namespace Go.Jud
open Go.Rn Go.Rec Go.Pol Go.Und Go.Doc Go.Bud
def errE (r : Rg) (sg : List Int) (u : List Us) (doc t kn : Int) : Int :=
 if chkR r = false then 300 else if okArg (docs r) sg 0 = false then 1 else if usesB u = false then 180 else if ((docP r doc).isSome && (tmB t && tmB kn)) = false then 1 else 0
theorem errE_zero {r : Rg} {sg : List Int} {u : List Us} {doc t kn : Int} (h : errE r sg u doc t kn = 0) : OkR r ∧ okArg (docs r) sg 0 = true ∧ usesB u = true ∧ (∃ d, docP r doc = some d) ∧ tmB t = true ∧ tmB kn = true := by
 unfold errE at h
 by_cases h1 : chkR r = false
 ·rw [if_pos h1] at h; cases h
 rw [if_neg h1] at h
 by_cases h2 : okArg (docs r) sg 0 = false
 ·rw [if_pos h2] at h; cases h
 rw [if_neg h2] at h
 by_cases h3 : usesB u = false
 ·rw [if_pos h3] at h; cases h
 rw [if_neg h3] at h
 by_cases h4 : ((docP r doc).isSome && (tmB t && tmB kn)) = false
 ·rw [if_pos h4] at h; cases h
 simp only [Bool.not_eq_false, Bool.and_eq_true] at h1 h2 h3 h4
 exact ⟨chkR_iff.1 h1, h2, h3, Option.isSome_iff_exists.1 h4.1, h4.2.1, h4.2.2⟩
theorem doc_mem {r : Rg} {no : Int} {d : Dk} (h : docP r no = some d) : d ∈ r.ds := List.mem_of_find?_eq_some h
end Go.Jud
namespace Go.Sg
open Go.Rn Go.Proofs Go.Rec Go.RowKit Go.Jud Go.Doc Go.Pol Go.Apv Go.Best Go.Und Go.Off Go.Per Go.Bud
attribute [local irreducible] Go.Rn.RetsX Go.Rn.RunLN Go.Rn.AsyN Go.Rn.RunL Go.Rn.RunE Go.Rn.Asy Go.Rn.OpV Go.Rn.OpE Go.Rn.ExecE
abbrev pt (b : Nat) : Value := .pointer (some ⟨b, 0, none⟩)
theorem j1_ok (c : Ct) (sg : List Int) (u : Value) (N bc bs : Nat) (w : World) (hR : HoldR w N c.r) (hC : OkC c) (hS : OkS c sg) (hu : IsL w intC 1 u sg) (Yc : Blk w bc c.cells 60) (Ys : Blk w bs [u] 31) :
  Rets Tryz.prog 16 [pt bc, pt bs] w fun r w' => r = .bool (closedP c sg) ∧ Ext w w' := by
 obtain ⟨du, cq, rfl⟩ := isSl_slice hu
 refine en Tryz.func16 6 fun hf_ => ?_
 refine g ?_
 refine gc (jclosed_ok c sg _ N w hR hC hS hu) ?_
 rintro _ w1 ⟨rfl, E1⟩
 refine rt ?_
 exact ⟨rfl, E1⟩
theorem j2_ok (c : Ct) (sg : List Int) (u : Value) (N bc bs : Nat) (w : World) (hR : HoldR w N c.r) (hC : OkC c) (hS : OkS c sg) (hu : IsL w intC 1 u sg) (Yc : Blk w bc c.cells 60) (Ys : Blk w bs [u] 31) :
  Rets Tryz.prog 18 [pt bc, pt bs] w fun r w' => r = .bool (lacksP c sg) ∧ Ext w w' := by
 obtain ⟨du, cq, rfl⟩ := isSl_slice hu
 refine en Tryz.func18 6 fun hf_ => ?_
 refine g ?_
 refine gc (jlacks_ok c sg _ N w hR hC hS hu) ?_
 rintro _ w1 ⟨rfl, E1⟩
 refine rt ?_
 exact ⟨rfl, E1⟩
def AskV (c : Ct) (st bu : Int) (bv lo : Nat) (w' : World) : Prop := ∃ (dq : Option Addr) (cq : Nat) (dr : Option Addr) (nr cr : Nat), Blk w' bv (vdC st bu (.slice dq (judgesP c).length cq) (.slice dr nr cr)) 34 ∧ IsL w' intC 1 (.slice dq (judgesP c).length cq) (judgesP c) ∧ ∀ k, (Value.slice dq (judgesP c).length cq).ownBlock = some k → lo ≤ k
theorem j3_ok (c : Ct) (st bu : Int) (bv bc N : Nat) (wN w : World) (E : Ext wN w) (hR : HoldR wN N c.r) (hC : OkC c) (hK : Row wN 0 0 kindsC) (hle : c.d.d.at_ ≤ c.at_) (Y : Blk w bv (vdC st bu (.slice none 0 0) (.slice none 0 0)) 34) (hbv : wN.heap.size ≤ bv) (Yc : Blk w bc c.cells 60) :
  Rets Tryz.prog 20 [pt bc, pt bv] w fun r w' => r = .bool (!askP c) ∧ AskV c st bu bv w.heap.size w' ∧ ExtB (fun k => k = bv) w w' := by
 refine en Tryz.func20 6 fun hf_ => ?_
 refine g ?_
 refine gc (ask_ok c st bu bv N wN w E hR hC hK hle Y hbv) ?_
 rintro _ w1 ⟨rfl, h1, E1⟩
 cases askP c
 all_goals
  refine rt ?_
  exact ⟨rfl, h1, E1⟩
theorem argsB_of {c : Ct} (hC : OkC c) : argsB c.d.d.kind c.d.d.value c.at_ c.kn = true := by
 obtain ⟨n1, n2, n3, n4, n5, n6, n7, n8, -⟩ := (doc_right hC hC.m).1
 obtain ⟨ht0, ht1⟩ := hC.t
 obtain ⟨hk0, hk1⟩ := hC.k
 exact decide_eq_true ⟨n5, by omega, n7, n8, ht0, by omega, hk0, by omega⟩
theorem j4_ok (c : Ct) (us : List Us) (uv : Value) (st bu : Int) (q1 q2 : Value) (br bu' bc bt bk bv N : Nat) (wN w : World) (E : Ext wN w) (hR : HoldR wN N c.r) (hC : OkC c) (hus : usesB us = true) (hul : us.length ≤ 4096) (hu : IsL wN Us.cells 5 uv us)
  (Yr : Blk w br c.r.cells 30) (Yu : Blk w bu' [uv] 32) (Yc : Blk w bc c.cells 60) (Yt : Blk w bt [.int .i64 c.at_] 3) (Yk : Blk w bk [.int .i64 c.kn] 3) (Y : Blk w bv (vdC st bu q1 q2) 34) :
  Rets Tryz.prog 22 [pt br, pt bu', pt bc, pt bt, pt bk, pt bv] w fun r w' => r = .bool (!roomP c us) ∧ (∃ bu2, Blk w' bv (vdC st bu2 q1 q2) 34) ∧ ExtB (fun k => k = bv) w w' := by
 obtain ⟨du, cq, rfl⟩ := isSl_slice hu
 have hR0 := hR.up E
 refine en Tryz.func22 34 fun hf_ => ?_
 refine g ?_
 refine gc (broom_ok c.r.bg us _ _ c.d.d.kind c.d.d.value c.at_ c.kn w hC.r.b hul (argsB_of hC) hR0.bg (hu.up E)) ?_
 rintro _ w1 ⟨⟨no, rfl⟩, E1⟩
 rw [hus, Bool.true_and, if_pos rfl]
 have hrm : roomP c us = roomB c.r.bg us c.d.d.kind c.d.d.value c.at_ c.kn := rfl
 rw [hrm]
 have Y1 := Y.up E1
 cases roomB c.r.bg us c.d.d.kind c.d.d.value c.at_ c.kn with
 | true =>
  refine rt ?_
  exact ⟨rfl, ⟨_, Y1⟩, ExtB.of_ext E1⟩
 | false =>
  refine g ?_
  refine RunL.store Tryz.tOk rfl rfl rfl rfl rfl Y1 rfl rfl fun w2 t2 => ?_
  refine rt ?_
  exact ⟨rfl, ⟨no, t2.at_⟩, (ExtB.of_ext E1).trans t2.ext⟩
end Go.Sg
end
section
set_option maxRecDepth 4000
namespace Go.Sg
open Go.Rn Go.Proofs Go.Rec Go.RowKit Go.Jud Go.Doc Go.Pol Go.Apv Go.Best Go.Und Go.Off Go.Per Go.Bud
attribute [local irreducible] Go.Rn.RetsX Go.Rn.RunLN Go.Rn.AsyN Go.Rn.RunL Go.Rn.RunE Go.Rn.Asy Go.Rn.OpV Go.Rn.OpE Go.Rn.ExecE
abbrev vd0 : List Value := vdC 0 0 (.slice none 0 0) (.slice none 0 0)
theorem jbad {R : Value → World → Prop} {e x : Int} {B12 B13 : Nat} {w' : World} {a : Act} {env : Env} (hst : St 69 [defOf 10 [pt B13]] env a) (h12 : env.get 12 = some (pt B12)) (h13 : env.get 13 = some (pt B13))
  (Z12 : Blk w' B12 vd0 34) (Z13 : Blk w' B13 [.int .i64 x] 35) (hne : B12 ≠ B13) (hR : ∀ w'', ExtB (fun k => k = B13) w' w'' → R (.tuple #[.agg vd0.toArray, .int .i64 e]) w'') :
  FnQ Tryz.prog 4 R (fun _ _ => False) (.panic (panOf 35 (.int .i64 e))) a w' :=
 FnQ.panicD Tryz.func4 jcaught_body hst ((jcaught_pan B13 x e w' Z13).monoX fun u' w'' h => ⟨h.1, _, .cell h12 (.agg Tryz.tOk rfl rfl rfl (Z12.ext h.2.1 hne).row) (.cell h13 (.scalar Tryz.tOk rfl rfl (h.2.2.cell (i := 0) rfl)) .nil), hR w'' h.2.1⟩)
theorem jgood {R : Value → World → Prop} {c : Ctx} {k : List Item} {B12 B13 : Nat} {w' : World} {env : Env} {cs : List Value} (h12 : env.get 12 = some (pt B12)) (h13 : env.get 13 = some (pt B13)) (hl : cs.length = 4)
  (Z12 : Blk w' B12 cs 34) (Z13 : Blk w' B13 [.int .i64 0] 35) (hR : R (.tuple #[.agg cs.toArray, .int .i64 0]) w') :
  RunE Tryz.prog c 69 [defOf 10 [pt B13]] (.code .ret :: k) (FnQ Tryz.prog 4 R (fun _ _ => False)) env w' :=
 RunE.retD Tryz.func4 jcaught_body ((jcaught_ret B13 w').monoX fun u' w'' h => by
  obtain ⟨h1, rfl⟩ := h
  exact ⟨h1, _, .cell h12 (.agg Tryz.tOk rfl rfl hl Z12.row) (.cell h13 (.scalar Tryz.tOk rfl rfl (Z13.cell (i := 0) rfl)) .nil), hR⟩)
def JudgeR (r : Rg) (sg : List Int) (us : List Us) (doc t kn : Int) (v : Value) (w' : World) : Prop :=
 ∃ (st bu : Int) (dq : Option Addr) (nq cq : Nat) (dr : Option Addr) (nr cr : Nat), v = .tuple #[.agg (vdC st bu (.slice dq nq cq) (.slice dr nr cr)).toArray, .int .i64 (errE r sg us doc t kn)] ∧
  (errE r sg us doc t kn ≠ 0 → st = 0 ∧ nq = 0 ∧ nr = 0) ∧
  (errE r sg us doc t kn = 0 → ∀ d, docP r doc = some d → st = stateP ⟨r, d, t, kn⟩ sg us ∧
   (closedP ⟨r, d, t, kn⟩ sg = true ∨ lacksP ⟨r, d, t, kn⟩ sg = true → nq = 0 ∧ nr = 0) ∧
   (closedP ⟨r, d, t, kn⟩ sg = false → lacksP ⟨r, d, t, kn⟩ sg = false → nq = (judgesP ⟨r, d, t, kn⟩).length ∧ IsL w' intC 1 (.slice dq nq cq) (judgesP ⟨r, d, t, kn⟩)))
theorem judge_bad {r : Rg} {sg : List Int} {us : List Us} {doc t kn e : Int} {w' : World} (h : errE r sg us doc t kn = e) (he : e ≠ 0) : JudgeR r sg us doc t kn (.tuple #[.agg vd0.toArray, .int .i64 e]) w' :=
 ⟨0, 0, none, 0, 0, none, 0, 0, by rw [h], fun _ => ⟨rfl, rfl, rfl⟩, fun h0 => absurd (h ▸ h0) he⟩
def stepJ (r : Nat) (u c t k v s : Nat) : Nat → List Value
 | 0 => [.int .i64 1, .func (.func 16) #[] #[pt c, pt s]]
 | 1 => [.int .i64 2, .func (.func 18) #[] #[pt c, pt s]]
 | 2 => [.int .i64 3, .func (.func 20) #[] #[pt c, pt v]]
 | _ => [.int .i64 4, .func (.func 22) #[] #[pt r, pt u, pt c, pt t, pt k, pt v]]
theorem encStep (r u c t k v s : Nat) : EncOk (stepJ r u c t k v s) 2 := ⟨fun i => by unfold stepJ; split <;> rfl, fun i => by unfold stepJ; split <;> rfl, by decide⟩
theorem judge_ok (r : Rg) (sg : List Int) (us : List Us) (sv uv : Value) (doc t kn : Int) (N : Nat) (w : World) (hR : HoldR w N r) (hK : Row w 0 0 kindsC) (hsg : IsL w intC 1 sv sg) (hsl : sg.length ≤ 100000) (hu : IsL w Us.cells 5 uv us) (hul : us.length ≤ 4096) :
  Rets Tryz.prog 4 [rgV r, sv, uv, .int .i64 doc, .int .i64 t, .int .i64 kn] w fun v w' => JudgeR r sg us doc t kn v w' ∧ Ext w w' := by
 obtain ⟨ds, cs, rfl⟩ := isSl_slice hsg
 obtain ⟨du, cu, rfl⟩ := isSl_slice hu
 have hkl := hR.kl
 refine en Tryz.func4 69 fun hf_ => ?_
 refine g1 (cs := r.cells) fun B6 w1 E1 G6 Z6 => ?_
 refine g1 (cs := [.slice ds sg.length cs]) fun B7 w2 E2 G7 Z7 => ?_
 refine g1 (cs := [.slice du us.length cu]) fun B8 w3 E3 G8 Z8 => ?_
 refine g1 (cs := [.int .i64 t]) fun B10 w4 E4 G10 Z10 => ?_
 refine g1 (cs := [.int .i64 kn]) fun B11 w5 E5 G11 Z11 => ?_
 refine g ?_
 refine RunL.alloc Tryz.tOk rfl rfl rfl fun B12 w6 a12 => ?_
 have E6 := a12.ext
 have n12 := a12.eq
 have Z12 : Blk w6 B12 vd0 34 := a12.at_
 clear a12
 refine g ?_
 refine RunL.alloc Tryz.tOk rfl rfl rfl fun B13 w7 a13 => ?_
 have E7 := a13.ext
 have n13 := a13.eq
 have Z13 : Blk w7 B13 [.int .i64 0] 35 := a13.at_
 clear a13
 have X5 : Ext w w5 := (((E1.trans E2).trans E3).trans E4).trans E5
 have s5 := X5.size
 have s6 := E6.size
 have l12 := Z12.lt
 have l13 := Z13.lt
 have k6 : B6 < B12 := by have := Z6.lt; have := (E2.trans (E3.trans (E4.trans E5))).size; omega
 have k7 : B7 < B12 := by have := Z7.lt; have := (E3.trans (E4.trans E5)).size; omega
 have k8 : B8 < B12 := by have := Z8.lt; have := (E4.trans E5).size; omega
 have k10 : B10 < B12 := by have := Z10.lt; have := E5.size; omega
 have k11 : B11 < B12 := by have := Z11.lt; omega
 have X7 : Ext w w7 := X5.trans (E6.trans E7)
 have Z67 := Z6.up (E2.trans (E3.trans (E4.trans (E5.trans (E6.trans E7)))))
 have Z77 := Z7.up (E3.trans (E4.trans (E5.trans (E6.trans E7))))
 have Z87 := Z8.up (E4.trans (E5.trans (E6.trans E7)))
 have Z107 := Z10.up (E5.trans (E6.trans E7))
 have Z117 := Z11.up (E6.trans E7)
 have Z127 := Z12.up E7
 have s7 := E7.size
 clear Z6 Z7 Z8 Z10 Z11 Z12 E1 E2 E3 E4 E5 E6 E7 G6 G7 G8 G10 G11
 have wr : ∀ {u}, ExtB (fun k => k = B13) w7 u → Ext w u := fun e => X7.write e (by intro k hk hlt; have hk : k = B13 := hk; omega)
 refine g ?_
 refine RunL.defer rfl rfl rfl ?_
 refine g ?_
 refine gc (jcheck_ok r N w7 (hR.up X7) (hK.up X7)) ?_
 rintro _ w8 ⟨rfl, E8⟩
 have X8 := X7.trans E8
 refine g ?_
 refine RunL.exS rfl rfl rfl (OpE.call rfl (needX (chkE r) w8)) (fun ch w' a hx hst => ?_) ?_
 ·obtain ⟨hne, rfl, rfl⟩ := hx
  have hch : chkR r = false := by unfold chkE at hne; split at hne; exact absurd rfl hne; rename_i h; simpa using h
  have he : chkE r = 300 := by unfold chkE; rw [hch]; rfl
  rw [he]
  exact jbad hst rfl rfl (Z127.up E8) (Z13.up E8) (by omega) fun w'' e => ⟨judge_bad (by unfold errE; rw [if_pos hch]) (by decide), X8.write e (by intro k hk hlt; have hk : k = B13 := hk; omega)⟩
 rintro _ _ ⟨h0, rfl, rfl⟩
 have hch : chkR r = true := by unfold chkE at h0; split at h0; assumption; cases h0
 have hch' : ¬ chkR r = false := by rw [hch]; simp
 have hO := chkR_iff.1 hch
 clear h0
 have hR8 := hR.up X8
 have Z68 := Z67.up E8
 have Z78 := Z77.up E8
 refine g ?_
 refine gc (inforce_ok r.ds _ _ sg 0 w8 (by omega) hsl hO.k hR8.ds (hsg.up X8) hR8.hd) ?_
 rintro _ w9 ⟨⟨q9, rfl, -⟩, E9⟩
 have Z139 := Z13.up (E8.trans E9)
 have hdocs : docs r = r.ds.map Dk.d := rfl
 rw [← hdocs]
 generalize hk1 : (if okArg (docs r) sg 0 = true then (0 : Int) else 1) = e1
 refine g ?_
 refine RunL.store Tryz.tOk rfl rfl rfl rfl rfl Z139 rfl rfl fun w10 t10 => ?_
 have Z1310 : Blk w10 B13 [.int .i64 e1] 35 := t10.at_
 have T10 : ExtB (fun k => k = B13) w7 w10 := (ExtB.of_ext (E8.trans E9)).trans t10.ext
 clear t10 Z139 Z68 Z78 hR8 X8
 have X10 := wr T10
 have Z610 := Z67.ext T10 (by omega)
 have Z810 := Z87.ext T10 (by omega)
 refine g ?_
 refine RunL.exS rfl rfl rfl (OpE.call rfl (needX e1 w10)) (fun ch w' a hx hst => ?_) ?_
 ·obtain ⟨hne, rfl, rfl⟩ := hx
  have hoa : okArg (docs r) sg 0 = false := by
   cases h : okArg (docs r) sg 0 with
   | true => rw [h, if_pos rfl] at hk1; exact absurd hk1.symm hne
   | false => rfl
  have he : e1 = 1 := by rw [← hk1, hoa]; rfl
  rw [he]
  exact jbad hst rfl rfl (Z127.ext T10 (by omega)) Z1310 (by omega) fun w'' e => ⟨judge_bad (by unfold errE; rw [if_neg hch', if_pos hoa]) (by decide), X10.write e (by intro k hk hlt; have hk : k = B13 := hk; omega)⟩
 rintro _ _ ⟨h1, rfl, rfl⟩
 have hoa : okArg (docs r) sg 0 = true := by
  cases h : okArg (docs r) sg 0 with
  | true => rfl
  | false => rw [h] at hk1; rw [h1] at hk1; cases hk1
 have hoa' : ¬ okArg (docs r) sg 0 = false := by rw [hoa]; simp
 clear hk1
 refine g ?_
 refine gc (broom_ok r.bg us _ _ 0 0 0 0 w10 hO.b hul (by decide) (hR.up X10).bg (hu.up X10)) ?_
 rintro _ w11 ⟨⟨no, rfl⟩, E11⟩
 have Z1311 := Z1310.up E11
 generalize hk2 : (if usesB us = true then (0 : Int) else 180) = e2
 refine g ?_
 refine RunL.store Tryz.tOk rfl rfl rfl rfl rfl Z1311 rfl rfl fun w12 t12 => ?_
 have Z1312 : Blk w12 B13 [.int .i64 e2] 35 := t12.at_
 have T12 : ExtB (fun k => k = B13) w7 w12 := (T10.trans (ExtB.of_ext E11)).trans t12.ext
 clear t12 Z1310 Z1311 Z610 Z810
 have X12 := wr T12
 have Z612 := Z67.ext T12 (by omega)
 have Z1012 := Z107.ext T12 (by omega)
 have Z1112 := Z117.ext T12 (by omega)
 have Z1212 := Z127.ext T12 (by omega)
 refine g ?_
 refine RunL.exS rfl rfl rfl (OpE.call rfl (needX e2 w12)) (fun ch w' a hx hst => ?_) ?_
 ·obtain ⟨hne, rfl, rfl⟩ := hx
  have hub : usesB us = false := by
   cases h : usesB us with
   | true => rw [h, if_pos rfl] at hk2; exact absurd hk2.symm hne
   | false => rfl
  have he : e2 = 180 := by rw [← hk2, hub]; rfl
  rw [he]
  exact jbad hst rfl rfl Z1212 Z1312 (by omega) fun w'' e => ⟨judge_bad (by unfold errE; rw [if_neg hch', if_neg hoa', if_pos hub]) (by decide), X12.write e (by intro k hk hlt; have hk : k = B13 := hk; omega)⟩
 rintro _ _ ⟨h2, rfl, rfl⟩
 have hub : usesB us = true := by
  cases h : usesB us with
  | true => rfl
  | false => rw [h] at hk2; rw [h2] at hk2; cases hk2
 have hub' : ¬ usesB us = false := by rw [hub]; simp
 clear hk2
 subst h2
 refine g ?_
 refine RunL.exS rfl rfl rfl (OpE.call rfl (open_ok r N doc t kn w12 (hR.up X12))) (fun ch w' a hx hst => ?_) ?_
 ·obtain ⟨⟨hne, rfl⟩, F⟩ := hx
  exact jbad hst rfl rfl (Z1212.up F) (Z1312.up F) (by omega) fun w'' e => ⟨judge_bad (by unfold errE; rw [if_neg hch', if_neg hoa', if_neg hub', if_pos hne]) (by decide), (X12.trans F).write e (by intro k hk hlt; have hk : k = B13 := hk; omega)⟩
 rintro _ w13 ⟨⟨d, hd, ht, hkn, rfl⟩, E13⟩
 have hE : errE r sg us doc t kn = 0 := by
  unfold errE
  rw [if_neg hch', if_neg hoa', if_neg hub', hd, ht, hkn]; rfl
 have hdm := doc_mem hd
 have hC : OkC ⟨r, d, t, kn⟩ := ⟨hO, hdm, of_decide_eq_true ht, of_decide_eq_true hkn⟩
 have hS := okS_of hC hoa
 have X13 := X12.trans E13
 unfold JudgeR
 rw [hE]
 generalize hcc : (⟨r, d, t, kn⟩ : Ct) = c at hC hS
 have hcr : c.r = r := by rw [← hcc]
 have hca : c.at_ = t := by rw [← hcc]
 have hck : c.kn = kn := by rw [← hcc]
 have hcd : c.d = d := by rw [← hcc]
 refine g1 (cs := c.cells) fun B14 w14 E14 G14 Z14 => ?_
 have F14 := E13.trans E14
 have Z1214 := Z1212.up F14
 have Z1314 := Z1312.up F14
 have s12 := T12.size
 have s13 := E13.size
 have s14 := E14.size
 have l14 := Z14.lt
 refine g ?_
 refine RunL.store Tryz.tOk rfl rfl rfl rfl rfl Z1214 rfl rfl fun w15 t15 => ?_
 have V15 : Blk w15 B12 (vdC 0 (-1) (.slice none 0 0) (.slice none 0 0)) 34 := t15.at_
 have T15 : ExtB (fun k => k = B12) w14 w15 := t15.ext
 clear t15 Z1214
 have s15 := T15.size
 have Z615 := (Z612.up F14).ext T15 (by omega)
 have Z715 := ((Z77.ext T12 (by omega)).up F14).ext T15 (by omega)
 have Z815 := ((Z87.ext T12 (by omega)).up F14).ext T15 (by omega)
 have Z1015 := (Z1012.up F14).ext T15 (by omega)
 have Z1115 := (Z1112.up F14).ext T15 (by omega)
 have Z1315 := Z1314.ext T15 (by omega)
 have Z1415 := Z14.ext T15 (by omega)
 have X15 : Ext w w15 := (X12.trans F14).write T15 (by intro k hk hlt; have hk : k = B12 := hk; omega)
 clear Z67 Z77 Z87 Z107 Z117 Z127 Z13 Z612 Z1012 Z1112 Z1212 Z1312 Z1314 Z14
 refine g ?_
 refine RunL.ex rfl rfl rfl (OpE.buildSl Tryz.tOk [.agg (stepJ B6 B8 B14 B10 B11 B12 B7 0).toArray, .agg (stepJ B6 B8 B14 B10 B11 B12 B7 1).toArray, .agg (stepJ B6 B8 B14 B10 B11 B12 B7 2).toArray, .agg (stepJ B6 B8 B14 B10 B11 B12 B7 3).toArray] rfl rfl rfl rfl rfl rfl (by simp [Value.cells, stepJ])) ?_
 rintro _ w16 ⟨B, rfl, a16⟩
 have hv : IsL w16 (stepJ B6 B8 B14 B10 B11 B12 B7) 2 (.slice (some ⟨B, 0, none⟩) 4 4) [0, 1, 2, 3] := by
  have := isSl_added (n := 4) (sz := 2) a16 rfl
  simpa [IsL, flat, cellsAll, Value.cells] using this
 have E16 := a16.ext
 have nB := a16.eq
 clear a16
 have s16 := E16.size
 have X16 := X15.trans E16
 have V16 := V15.up E16
 have Z616 := Z615.up E16
 have Z716 := Z715.up E16
 have Z816 := Z815.up E16
 have Z1016 := Z1015.up E16
 have Z1116 := Z1115.up E16
 have Z1316 := Z1315.up E16
 have Z1416 := Z1415.up E16
 clear Z615 Z715 Z815 Z1015 Z1115 Z1315 Z1415 V15
 have fin : ∀ u, ExtB (fun k => k = B12) w16 u → Ext w u := fun u e => X16.write e (by intro k hk hlt; have hk : k = B12 := hk; omega)
 have hst : ∀ x : Int, stateP c sg us = x → ∀ d', docP r doc = some d' → x = stateP ⟨r, d', t, kn⟩ sg us := fun x h d' h' => by
  rw [hd] at h'; cases h'; rw [hcc]; exact h.symm
 have hdd : ∀ d', docP r doc = some d' → (⟨r, d', t, kn⟩ : Ct) = c := fun d' h' => by rw [hd] at h'; cases h'; exact hcc
 have hlj : 24 = 24 := rfl
 refine g ?_
 refine rangeL hv (encStep B6 B8 B14 B10 B11 B12 B7) 53 54 55 (fun _ : Unit => [(6, pt B6), (7, pt B7), (8, pt B8), (10, pt B10), (11, pt B11), (12, pt B12), (13, pt B13), (14, pt B14)])
  (fun i _ u => ExtB (fun k => k = B12) w16 u ∧ (i ≤ 2 → Blk u B12 (vdC 0 (-1) (.slice none 0 0) (.slice none 0 0)) 34) ∧ (3 ≤ i → ∃ bu, AskV c 0 bu B12 w16.heap.size u) ∧ (1 ≤ i → closedP c sg = false) ∧ (2 ≤ i → lacksP c sg = false) ∧ (3 ≤ i → askP c = true) ∧ (4 ≤ i → roomP c us = true)) () sb_
  ⟨ExtB.refl _ _, fun _ => V16, fun h => by omega, fun h => by omega, fun h => by omega, fun h => by omega, fun h => by omega⟩ ?_ ?_
 ·rintro i ⟨⟩ x u hx ⟨XU, hV, hA, hc1, hc2, hc3, hc4⟩ b o cap hve hrx hlt again
  injection hve with q1 q2 q3
  injection q1 with q1
  injection q1 with q1 q4
  subst q1 q4 q3
  have hi4 : i < 4 := hlt
  have sU := XU.size
  have Zr := Z616.ext XU (by omega)
  have Zs := Z716.ext XU (by omega)
  have Zu := Z816.ext XU (by omega)
  have Zt := Z1016.ext XU (by omega)
  have Zk := Z1116.ext XU (by omega)
  have Ze0 := Z1316.ext XU (by omega)
  have Zc := Z1416.ext XU (by omega)
  have hru := hrx.ext XU (by omega)
  have XW := fin u XU
  have hRu := hR.up XW
  have hsu := hsg.up XW
  obtain rfl | rfl | rfl | rfl : i = 0 ∨ i = 1 ∨ i = 2 ∨ i = 3 := by omega
  ·obtain rfl : x = 0 := by simpa using hx.symm
   have V := hV (by omega)
   refine g1 (cs := stepJ B6 B8 B14 B10 B11 B12 B7 0) fun B16 u0 F0 G16 Y16 => ?_
   refine g ?_
   refine RunL.ex rfl rfl rfl (OpE.callV rfl rfl (RetsX.v (fi := []) (args := []) (ca := [pt B14, pt B7]) (j1_ok c sg _ N B14 B7 u0 (by rw [hcr]; exact hRu.up F0) hC hS (hsu.up F0) (Zc.up F0) (Zs.up F0)))) ?_
   rintro _ u1 ⟨rfl, F1⟩
   have Y161 := Y16.up F1
   have Zv := V.up (F0.trans F1)
   have Ze := Ze0.up (F0.trans F1)
   have XE := XW.trans (F0.trans F1)
   cases hcl : closedP c sg with
   | true =>
    refine g ?_
    refine RunL.store Tryz.tOk rfl rfl rfl rfl rfl Zv rfl rfl fun u2 t2 => ?_
    have V2 : Blk u2 B12 (vdC 1 (-1) (.slice none 0 0) (.slice none 0 0)) 34 := t2.at_
    have T2 : ExtB (fun k => k = B12) u1 u2 := t2.ext
    clear t2
    refine g ?_
    refine RunL.storeW (vs := vdC 1 (-1) (.slice none 0 0) (.slice none 0 0)) Tryz.tOk rfl rfl rfl rfl rfl V2 rfl rfl fun u3 t3 => ?_
    have V3 : Blk u3 B12 (vdC 1 (-1) (.slice none 0 0) (.slice none 0 0)) 34 := t3.at_
    have T3 : ExtB (fun k => k = B12) u1 u3 := T2.trans t3.ext
    have Ze3 := Ze.ext T3 (by omega)
    clear t3
    refine g ?_
    refine RunL.store Tryz.tOk rfl rfl rfl rfl rfl Ze3 rfl rfl fun u4 t4 => ?_
    have Ze4 : Blk u4 B13 [.int .i64 0] 35 := t4.at_
    have T4 : ExtB (fun k => k = B13) u3 u4 := t4.ext
    have V4 := V3.ext T4 (by omega)
    have X4 : Ext w u4 := (XE.write T3 (by intro k hk hlt; have hk : k = B12 := hk; omega)).write T4 (by intro k hk hlt; have hk : k = B13 := hk; omega)
    clear t4
    refine g ?_
    exact jgood rfl rfl rfl V4 Ze4 ⟨⟨1, -1, none, 0, 0, none, 0, 0, rfl, fun h => absurd rfl h, fun _ d' h' => ⟨hst 1 (by unfold stateP; rw [hcl]; rfl) d' h', fun _ => ⟨rfl, rfl⟩, fun h => by rw [hdd d' h', hcl] at h; cases h⟩⟩, X4⟩
   | false =>
    have nx := again () u1 ⟨XU.trans (ExtB.of_ext (F0.trans F1)), fun _ => Zv, fun h => by omega, fun _ => hcl, fun h => by omega, fun h => by omega, fun h => by omega⟩
    refine g ?_
    exact RunE.weaken sb_ nx
  ·obtain rfl : x = 1 := by simpa using hx.symm
   have V := hV (by omega)
   have hcl := hc1 (by omega)
   refine g1 (cs := stepJ B6 B8 B14 B10 B11 B12 B7 1) fun B16 u0 F0 G16 Y16 => ?_
   refine g ?_
   refine RunL.ex rfl rfl rfl (OpE.callV rfl rfl (RetsX.v (fi := []) (args := []) (ca := [pt B14, pt B7]) (j2_ok c sg _ N B14 B7 u0 (by rw [hcr]; exact hRu.up F0) hC hS (hsu.up F0) (Zc.up F0) (Zs.up F0)))) ?_
   rintro _ u1 ⟨rfl, F1⟩
   have Y161 := Y16.up F1
   have Zv := V.up (F0.trans F1)
   have Ze := Ze0.up (F0.trans F1)
   have XE := XW.trans (F0.trans F1)
   cases hlk : lacksP c sg with
   | true =>
    refine g ?_
    refine RunL.store Tryz.tOk rfl rfl rfl rfl rfl Zv rfl rfl fun u2 t2 => ?_
    have V2 : Blk u2 B12 (vdC 2 (-1) (.slice none 0 0) (.slice none 0 0)) 34 := t2.at_
    have T2 : ExtB (fun k => k = B12) u1 u2 := t2.ext
    clear t2
    refine g ?_
    refine RunL.storeW (vs := vdC 2 (-1) (.slice none 0 0) (.slice none 0 0)) Tryz.tOk rfl rfl rfl rfl rfl V2 rfl rfl fun u3 t3 => ?_
    have V3 : Blk u3 B12 (vdC 2 (-1) (.slice none 0 0) (.slice none 0 0)) 34 := t3.at_
    have T3 : ExtB (fun k => k = B12) u1 u3 := T2.trans t3.ext
    have Ze3 := Ze.ext T3 (by omega)
    clear t3
    refine g ?_
    refine RunL.store Tryz.tOk rfl rfl rfl rfl rfl Ze3 rfl rfl fun u4 t4 => ?_
    have Ze4 : Blk u4 B13 [.int .i64 0] 35 := t4.at_
    have T4 : ExtB (fun k => k = B13) u3 u4 := t4.ext
    have V4 := V3.ext T4 (by omega)
    have X4 : Ext w u4 := (XE.write T3 (by intro k hk hlt; have hk : k = B12 := hk; omega)).write T4 (by intro k hk hlt; have hk : k = B13 := hk; omega)
    clear t4
    refine g ?_
    exact jgood rfl rfl rfl V4 Ze4 ⟨⟨2, -1, none, 0, 0, none, 0, 0, rfl, fun h => absurd rfl h, fun _ d' h' => ⟨hst 2 (by unfold stateP; rw [hcl, hlk]; rfl) d' h', fun _ => ⟨rfl, rfl⟩, fun _ h => by rw [hdd d' h', hlk] at h; cases h⟩⟩, X4⟩
   | false =>
    have nx := again () u1 ⟨XU.trans (ExtB.of_ext (F0.trans F1)), fun _ => Zv, fun h => by omega, fun _ => hcl, fun _ => hlk, fun h => by omega, fun h => by omega⟩
    refine g ?_
    exact RunE.weaken sb_ nx
  ·obtain rfl : x = 2 := by simpa using hx.symm
   have V := hV (by omega)
   have hcl := hc1 (by omega)
   have hlk := hc2 (by omega)
   have hle : c.d.d.at_ ≤ c.at_ := by
    have := hcl
    unfold closedP at this
    rw [Bool.or_eq_false_iff, decide_eq_false_iff_not] at this
    omega
   refine g1 (cs := stepJ B6 B8 B14 B10 B11 B12 B7 2) fun B16 u0 F0 G16 Y16 => ?_
   refine g ?_
   refine RunL.ex rfl rfl rfl (OpE.callV rfl rfl (RetsX.v (fi := []) (args := []) (ca := [pt B14, pt B12]) (j3_ok c 0 (-1) B12 B14 N w u0 (XW.trans F0) (by rw [hcr]; exact hR) hC hK hle (V.up F0) (by omega) (Zc.up F0)))) ?_
   rintro _ u1 ⟨rfl, hAs, F1⟩
   have Y161 := Y16.ext F1 (by omega)
   have Ze := (Ze0.up F0).ext F1 (by omega)
   have XE := (XW.trans F0).write F1 (by intro k hk hlt; have hk : k = B12 := hk; omega)
   have s0 := F0.size
   cases hak : askP c with
   | false =>
    obtain ⟨dq, cq, dr, nr, cr, Zv, hq, hqo⟩ := hAs
    refine g ?_
    refine RunL.store Tryz.tOk rfl rfl rfl rfl rfl Zv rfl rfl fun u2 t2 => ?_
    have V2 : Blk u2 B12 (vdC 3 (-1) (.slice dq (judgesP c).length cq) (.slice dr nr cr)) 34 := t2.at_
    have T2 : ExtB (fun k => k = B12) u1 u2 := t2.ext
    clear t2
    refine g ?_
    refine RunL.storeW (vs := vdC 3 (-1) (.slice dq (judgesP c).length cq) (.slice dr nr cr)) Tryz.tOk rfl rfl rfl rfl rfl V2 rfl rfl fun u3 t3 => ?_
    have V3 : Blk u3 B12 (vdC 3 (-1) (.slice dq (judgesP c).length cq) (.slice dr nr cr)) 34 := t3.at_
    have T3 : ExtB (fun k => k = B12) u1 u3 := T2.trans t3.ext
    have Ze3 := Ze.ext T3 (by omega)
    clear t3
    refine g ?_
    refine RunL.store Tryz.tOk rfl rfl rfl rfl rfl Ze3 rfl rfl fun u4 t4 => ?_
    have Ze4 : Blk u4 B13 [.int .i64 0] 35 := t4.at_
    have T4 : ExtB (fun k => k = B13) u3 u4 := t4.ext
    have V4 := V3.ext T4 (by omega)
    have X4 : Ext w u4 := (XE.write T3 (by intro k hk hlt; have hk : k = B12 := hk; omega)).write T4 (by intro k hk hlt; have hk : k = B13 := hk; omega)
    clear t4
    refine g ?_
    exact jgood rfl rfl rfl V4 Ze4 ⟨⟨3, -1, dq, _, cq, dr, nr, cr, rfl, fun h => absurd rfl h, fun _ d' h' => ⟨hst 3 (by unfold stateP; rw [hcl, hlk, hak]; rfl) d' h', fun h => (by rw [hdd d' h', hcl, hlk] at h; rcases h with h | h <;> cases h), fun _ _ => by rw [hdd d' h']; exact ⟨rfl, isL_ext (isL_ext hq T3 fun hne k hk h => by have := hqo k hk; have h : k = B12 := h; omega) T4 fun hne k hk h => by have := hqo k hk; have h : k = B13 := h; omega⟩⟩⟩, X4⟩
   | true =>
    obtain ⟨dq, cq, dr, nr, cr, Zv, hq, hqo⟩ := hAs
    have nx := again () u1 ⟨(XU.trans (ExtB.of_ext F0)).trans F1, fun h => by omega, fun _ => ⟨-1, dq, cq, dr, nr, cr, Zv, hq, fun k hk => by have := hqo k hk; omega⟩, fun _ => hcl, fun _ => hlk, fun _ => hak, fun h => by omega⟩
    refine g ?_
    exact RunE.weaken sb_ nx
  ·obtain rfl : x = 3 := by simpa using hx.symm
   obtain ⟨bu, dq, cq, dr, nr, cr, V, hq, hqo⟩ := hA (by omega)
   have hcl := hc1 (by omega)
   have hlk := hc2 (by omega)
   have hak := hc3 (by omega)
   refine g1 (cs := stepJ B6 B8 B14 B10 B11 B12 B7 3) fun B16 u0 F0 G16 Y16 => ?_
   refine g ?_
   refine RunL.ex rfl rfl rfl (OpE.callV rfl rfl (RetsX.v (fi := []) (args := []) (ca := [pt B6, pt B8, pt B14, pt B10, pt B11, pt B12]) (j4_ok c us _ 0 bu _ _ B6 B8 B14 B10 B11 B12 N w u0 (XW.trans F0) (by rw [hcr]; exact hR) hC hub hul hu (by rw [hcr]; exact Zr.up F0) (Zu.up F0) (Zc.up F0) (by rw [hca]; exact Zt.up F0) (by rw [hck]; exact Zk.up F0) (V.up F0)))) ?_
   rintro _ u1 ⟨rfl, ⟨bu2, Zv⟩, F1⟩
   have Y161 := Y16.ext F1 (by omega)
   have Ze := (Ze0.up F0).ext F1 (by omega)
   have XE := (XW.trans F0).write F1 (by intro k hk hlt; have hk : k = B12 := hk; omega)
   have hq1 := isL_ext (hq.up F0) F1 fun hne k hk h => by have := hqo k hk; have h : k = B12 := h; omega
   cases hrm : roomP c us with
   | false =>
    refine g ?_
    refine RunL.store Tryz.tOk rfl rfl rfl rfl rfl Zv rfl rfl fun u2 t2 => ?_
    have V2 : Blk u2 B12 (vdC 4 bu2 (.slice dq (judgesP c).length cq) (.slice dr nr cr)) 34 := t2.at_
    have T2 : ExtB (fun k => k = B12) u1 u2 := t2.ext
    clear t2
    refine g ?_
    refine RunL.storeW (vs := vdC 4 bu2 (.slice dq (judgesP c).length cq) (.slice dr nr cr)) Tryz.tOk rfl rfl rfl rfl rfl V2 rfl rfl fun u3 t3 => ?_
    have V3 : Blk u3 B12 (vdC 4 bu2 (.slice dq (judgesP c).length cq) (.slice dr nr cr)) 34 := t3.at_
    have T3 : ExtB (fun k => k = B12) u1 u3 := T2.trans t3.ext
    have Ze3 := Ze.ext T3 (by omega)
    clear t3
    refine g ?_
    refine RunL.store Tryz.tOk rfl rfl rfl rfl rfl Ze3 rfl rfl fun u4 t4 => ?_
    have Ze4 : Blk u4 B13 [.int .i64 0] 35 := t4.at_
    have T4 : ExtB (fun k => k = B13) u3 u4 := t4.ext
    have V4 := V3.ext T4 (by omega)
    have X4 : Ext w u4 := (XE.write T3 (by intro k hk hlt; have hk : k = B12 := hk; omega)).write T4 (by intro k hk hlt; have hk : k = B13 := hk; omega)
    clear t4
    refine g ?_
    exact jgood rfl rfl rfl V4 Ze4 ⟨⟨4, bu2, dq, _, cq, dr, nr, cr, rfl, fun h => absurd rfl h, fun _ d' h' => ⟨hst 4 (by unfold stateP; rw [hcl, hlk, hak, hrm]; rfl) d' h', fun h => (by rw [hdd d' h', hcl, hlk] at h; rcases h with h | h <;> cases h), fun _ _ => by rw [hdd d' h']; exact ⟨rfl, isL_ext (isL_ext hq1 T3 fun hne k hk h => by have := hqo k hk; have h : k = B12 := h; omega) T4 fun hne k hk h => by have := hqo k hk; have h : k = B13 := h; omega⟩⟩⟩, X4⟩
   | true =>
    have nx := again () u1 ⟨(XU.trans (ExtB.of_ext F0)).trans F1, fun h => by omega, fun _ => ⟨bu2, dq, cq, dr, nr, cr, Zv, hq1, hqo⟩, fun _ => hcl, fun _ => hlk, fun _ => hak, fun _ => hrm⟩
    refine g ?_
    exact RunE.weaken sb_ nx
 ·rintro ⟨⟩ u1 ⟨XU, -, hA, hc1, hc2, hc3, hc4⟩
  have hcl := hc1 (by decide)
  have hlk := hc2 (by decide)
  have hak := hc3 (by decide)
  have hrm := hc4 (by decide)
  obtain ⟨bu, dq, cq, dr, nr, cr, Zv, hq, hqo⟩ := hA (by decide)
  have sU := XU.size
  have Ze := Z1316.ext XU (by omega)
  have XE := fin u1 XU
  refine g ?_
  refine RunL.store Tryz.tOk rfl rfl rfl rfl rfl Zv rfl rfl fun u2 t2 => ?_
  have V2 : Blk u2 B12 (vdC 0 bu (.slice dq (judgesP c).length cq) (.slice dr nr cr)) 34 := t2.at_
  have T2 : ExtB (fun k => k = B12) u1 u2 := t2.ext
  clear t2
  refine g ?_
  refine RunL.storeW (vs := vdC 0 bu (.slice dq (judgesP c).length cq) (.slice dr nr cr)) Tryz.tOk rfl rfl rfl rfl rfl V2 rfl rfl fun u3 t3 => ?_
  have V3 : Blk u3 B12 (vdC 0 bu (.slice dq (judgesP c).length cq) (.slice dr nr cr)) 34 := t3.at_
  have T3 : ExtB (fun k => k = B12) u1 u3 := T2.trans t3.ext
  have Ze3 := Ze.ext T3 (by omega)
  clear t3
  refine g ?_
  refine RunL.store Tryz.tOk rfl rfl rfl rfl rfl Ze3 rfl rfl fun u4 t4 => ?_
  have Ze4 : Blk u4 B13 [.int .i64 0] 35 := t4.at_
  have T4 : ExtB (fun k => k = B13) u3 u4 := t4.ext
  have V4 := V3.ext T4 (by omega)
  have X4 : Ext w u4 := (XE.write T3 (by intro k hk hlt; have hk : k = B12 := hk; omega)).write T4 (by intro k hk hlt; have hk : k = B13 := hk; omega)
  clear t4
  refine g ?_
  exact jgood rfl rfl rfl V4 Ze4 ⟨⟨0, bu, dq, _, cq, dr, nr, cr, rfl, fun h => absurd rfl h, fun _ d' h' => ⟨hst 0 (by unfold stateP; rw [hcl, hlk, hak, hrm]; rfl) d' h', fun h => (by rw [hdd d' h', hcl, hlk] at h; rcases h with h | h <;> cases h), fun _ _ => by rw [hdd d' h']; exact ⟨rfl, isL_ext (isL_ext hq T3 fun hne k hk h => by have := hqo k hk; have h : k = B12 := h; omega) T4 fun hne k hk h => by have := hqo k hk; have h : k = B13 := h; omega⟩⟩⟩, X4⟩
end Go.Sg
end
