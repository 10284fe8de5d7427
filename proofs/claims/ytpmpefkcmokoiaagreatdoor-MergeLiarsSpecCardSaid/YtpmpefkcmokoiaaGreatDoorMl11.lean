/- Parts of this project that the claims share: MerW. -/
import Derived.Test.YtpmpefkcmokoiaaGreatDoorMl10
set_option linter.unusedSimpArgs false
set_option linter.unusedVariables false
set_option linter.unusedSectionVars false
section
/- Merge: sane. -/
set_option maxRecDepth 4000
namespace Go.Sg
open Go.Rn Go.Proofs Go.Dee Go.Mer Go.Rec Go.RowKit Go.Sha Go.Cod Go.NT
attribute [local irreducible] powC makeE makeD idD idG idE fineD stepD chkE mergeD liarsL leftL chkP provesB WfX Go.Rn.RetsX Go.Rn.RunLN Go.Rn.AsyN Go.Rn.RunL Go.Rn.RunE Go.Rn.Asy Go.Rn.OpV Go.Rn.OpE Go.Rn.ExecE
/-- A result of Merge or Liars. -/
def MerOut (w : World) (l : List Deed) (u : Value) : Prop := ∃ out : List Dr, LDr w u out ∧ out.map Dr.d = l ∧ ∀ x ∈ out, WfX w x
theorem MerOut.up {w w' : World} {l : List Deed} {u : Value} (h : MerOut w l u) (e : Ext w w') : MerOut w' l u := by
 obtain ⟨out, h1, h2, h3⟩ := h
 exact ⟨out, h1.up e, h2, fun x hx => (h3 x hx).up e⟩
/-- Lists of parts, made. -/
theorem inP_one {w : World} {l : List Dr} {d : Option Addr} {n c : Nat} {v : Value} (h : IsSl w 1 v 1 [.slice d n c]) (h1 : LDr w (.slice d n c) l) : InP w v [l] := by
 have e : Value.slice d n c = .slice d l.length c := by
  obtain ⟨d', c', h'⟩ := isSl_slice h1
  cases h'; rfl
 rw [e] at h h1
 exact ⟨[⟨l, d, c⟩], h, rfl, fun x hx => by
  rw [List.mem_singleton] at hx; subst hx; exact h1⟩
theorem inP_two {w : World} {l l' : List Dr} {d d' : Option Addr} {n c n' c' : Nat} {v : Value} (h : IsSl w 1 v 2 [.slice d n c, .slice d' n' c']) (h1 : LDr w (.slice d n c) l) (h2 : LDr w (.slice d' n' c') l') : InP w v [l, l'] := by
 have e : Value.slice d n c = .slice d l.length c := by
  obtain ⟨d', c', h'⟩ := isSl_slice h1
  cases h'; rfl
 have e' : Value.slice d' n' c' = .slice d' l'.length c' := by
  obtain ⟨d', c', h'⟩ := isSl_slice h2
  cases h'; rfl
 rw [e] at h h1
 rw [e'] at h h2
 exact ⟨[⟨l, d, c⟩, ⟨l', d', c'⟩], h, rfl, fun x hx => by
  simp only [List.mem_cons, List.not_mem_nil, or_false] at hx
  rcases hx with rfl | rfl
  ·exact h1
  ·exact h2⟩
theorem build_fork0 {env : Env} : evalOp Tryz.T env (.build 40 #[]) = some (.agg (Fr.cells ⟨zeroR, zeroR⟩).toArray) := build_st rfl rfl (by kernel_rfl)
set_option maxRecDepth 8000 in
set_option maxHeartbeats 16000000 in
theorem lsane_ok (w : World) (hS : Row w 0 0 (vals init8.l)) (hkT : Row w 1 0 (vals kTab)) : Rets Tryz.prog 10 [] w fun r w' => r = .bool true ∧ Ext w w' := by
 obtain ⟨ks, a, b, c, o, g, y, E, cS⟩ := small_ok w hS hkT
 have hki := E.ki
 have hkl : ks.length < 9223372036854775808 := by have := E.kl; omega
 have eall := E.all
 have esome := E.some
 have eboth := E.both
 have eliars := E.liars
 have epr := E.pr
 have esm := E.sm
 have hkd := E.keys
 clear E
 refine RetsX.of (nt := 192) Tryz.func10 (by kernel_rfl) rfl rfl (by simp) (by simp only [argEnv]; rfl) ?_
 repeat' (first | with_reducible refine RunLN.boolF rfl ?_ | refine RunL.ev Tryz.tOk rfl rfl rfl ?_ | refine RunE.seq ?_ | refine RunE.region ?_ | refine RunL.nil ?_)
 refine RunL.call rfl rfl rfl cS ?_
 rintro _ w1 ⟨⟨kv, lv, A, B, C, O, rfl, hk, hl, ⟨eA, eB, eC, eO⟩, wA, wB, wC, wO⟩, X⟩
 clear cS
 subst eA
 subst eB
 subst eC
 subst eO
 repeat' (first | with_reducible refine RunLN.boolT rfl ?_ | refine RunLN.any ?_ | refine RunL.ev Tryz.tOk rfl rfl rfl ?_)
 refine RunL.alloc Tryz.tOk rfl rfl rfl fun B3 wa_ aa_ => ?_
 repeat' (first | refine RunLN.any ?_ | refine RunL.ev Tryz.tOk rfl rfl rfl ?_)
 refine RunL.storeW (vs := O.cells) Tryz.tOk rfl rfl rfl rfl rfl aa_.at_ rfl rfl fun w3_ tb_ => ?_
 have Xa_ : Ext _ w3_ := aa_.ext.write tb_.ext (by intro i_ hi_ hlt_; have := aa_.eq; omega)
 have Z3 : Blk w3_ B3 O.cells 38 := tb_.at_
 replace hk := hk.up Xa_
 replace hl := hl.up Xa_
 replace wA := wA.up Xa_
 replace wB := wB.up Xa_
 replace wC := wC.up Xa_
 replace wO := wO.up Xa_
 replace X := X.trans Xa_
 clear Xa_ aa_ tb_
 obtain ⟨b1, o1, cc, hlv, hr, hcap⟩ := isL_held hl (show 0 < [A, B, C].length by simp)
 replace hlv : lv = .slice (some ⟨b1, o1, none⟩) 3 cc := hlv
 subst hlv
 replace hcap : 3 ≤ cc := hcap
 repeat' (first | with_reducible refine RunLN.boolT rfl ?_ | with_reducible refine RunLN.boolF rfl ?_ | refine RunL.ev Tryz.tOk rfl rfl rfl ?_ | refine RunE.condF rfl rfl ?_ | refine RunE.seq ?_ | refine RunE.region ?_ | refine RunL.nil ?_ | refine RunE.skip ?_)
 refine RunL.call rfl rfl rfl (pMerge_ok chkM_nil (fun k hk => by cases hk) (by decide) IsSl.nil (InP.nil _) (fun x hx => by cases hx) (hS.up X) (hkT.up X)) ?_
 rintro _ w4 ⟨⟨u5, out5, rfl, h5, e5, -⟩, Xa_⟩
 obtain rfl : out5 = [] := List.map_eq_nil_iff.1 (e5.trans merge_nil)
 replace h5 : IsSl w4 39 u5 0 [] := h5
 clear e5
 replace hk := hk.up Xa_
 replace hl := hl.up Xa_
 replace hr := hr.up Xa_
 replace wA := wA.up Xa_
 replace wB := wB.up Xa_
 replace wC := wC.up Xa_
 replace wO := wO.up Xa_
 replace Z3 := Z3.up Xa_
 replace X := X.trans Xa_
 clear Xa_
 repeat' (first | (with_reducible refine RunLN.chk ?_; refine RunLN.int (by (rfl)) ?_) | refine RunLN.any ?_ | refine RunL.ev Tryz.tOk rfl rfl rfl ?_ | refine RunE.seq ?_ | refine RunE.region ?_ | refine RunL.nil ?_)
 refine RunL.ex rfl rfl rfl (OpE.buildSl Tryz.tOk [.int .i64 2] rfl rfl rfl rfl rfl rfl (by simp [Value.cells])) ?_
 rintro _ w_ ⟨B_, rfl, a_⟩
 have h2 : LIn w_ (.slice (some ⟨B_, 0, none⟩) 1 1) [2] := (isSl_added (n := 1) (sz := 1) a_ rfl)
 replace hk := hk.up a_.ext
 replace hl := hl.up a_.ext
 replace hr := hr.up a_.ext
 replace wA := wA.up a_.ext
 replace wB := wB.up a_.ext
 replace wC := wC.up a_.ext
 replace wO := wO.up a_.ext
 replace Z3 := Z3.up a_.ext
 replace X := X.trans a_.ext
 clear a_
 have hk2 : KsI [2] := fun k hk => by simp at hk; omega
 have e2 : chkM [2] [] = 1 := by
  have hkd2 : keysD [2] = false := by unfold keysD; rw [List.all_cons, v2n]; rfl
  unfold chkM; rw [hkd2]; rfl
 have c2 := fun kv w h h1 h2 => mMerge_ok [2] kv [] nilV w h (by simp) hk2 IsSl.nil (by simp) (fun x hx => by cases hx) (fun x hx => by cases hx) (by decide) h1 h2
 rw [e2] at c2
 clear e2 hk2
 skip
 refine RunL.call rfl rfl rfl (c2 _ _ h2 (hS.up X) (hkT.up X)) ?_
 rintro _ w5 ⟨⟨u7, out7, rfl, -, -, -⟩, Xa_⟩
 clear c2 h2
 replace hk := hk.up Xa_
 replace hl := hl.up Xa_
 replace hr := hr.up Xa_
 replace wA := wA.up Xa_
 replace wB := wB.up Xa_
 replace wC := wC.up Xa_
 replace wO := wO.up Xa_
 replace Z3 := Z3.up Xa_
 replace X := X.trans Xa_
 clear Xa_
 repeat' (first | (with_reducible refine RunLN.chk ?_; refine RunLN.int (by (rfl)) ?_) | refine RunLN.any ?_ | refine RunL.ev Tryz.tOk rfl rfl rfl ?_ | refine RunE.seq ?_ | refine RunE.region ?_ | refine RunL.nil ?_)
 refine RunL.call rfl rfl rfl (pLiars_ok chkM_nil (fun k hk => by cases hk) (by decide) IsSl.nil (InP.nil _) (fun x hx => by cases hx) (hS.up X) (hkT.up X)) ?_
 rintro _ w6 ⟨⟨u9, fs9, rfl, h9, e9, -⟩, Xa_⟩
 obtain rfl : fs9 = [] := List.map_eq_nil_iff.1 (e9.trans liars_nil)
 replace h9 : IsSl w6 78 u9 0 [] := h9
 clear e9
 replace hk := hk.up Xa_
 replace hl := hl.up Xa_
 replace hr := hr.up Xa_
 replace wA := wA.up Xa_
 replace wB := wB.up Xa_
 replace wC := wC.up Xa_
 replace wO := wO.up Xa_
 replace Z3 := Z3.up Xa_
 replace X := X.trans Xa_
 clear Xa_
 have c0 := fun w h1 h2 => mProves_ok [] nilV ⟨zeroR, zeroR⟩ w IsSl.nil (by decide) (fun k hk => by cases hk) (zeroR_wf w) (zeroR_wf w) h1 h2
 have e0 : provesB [] zeroR.d zeroR.d = false := proves_none
 have e0' : provesE [] = 0 := rfl
 simp only [e0, e0'] at c0
 clear e0 e0'
 repeat' (first | (with_reducible refine RunLN.chk ?_; refine RunLN.int (by (rfl)) ?_) | refine RunLN.any ?_ | refine RunL.ev Tryz.tOk rfl rfl (build_fork0) ?_ | refine RunL.ev Tryz.tOk rfl rfl rfl ?_ | refine RunE.seq ?_ | refine RunE.region ?_ | refine RunL.nil ?_)
 refine RunL.call rfl rfl rfl (c0 _ (hS.up X) (hkT.up X)) ?_
 rintro _ w7 ⟨rfl, Xa_⟩
 clear c0
 replace hk := hk.up Xa_
 replace hl := hl.up Xa_
 replace hr := hr.up Xa_
 replace wA := wA.up Xa_
 replace wB := wB.up Xa_
 replace wC := wC.up Xa_
 replace wO := wO.up Xa_
 replace Z3 := Z3.up Xa_
 replace X := X.trans Xa_
 clear Xa_
 repeat' (first | with_reducible refine RunLN.boolF rfl ?_ | (with_reducible refine RunLN.chk ?_; refine RunLN.int (by (rfl)) ?_) | refine RunLN.any ?_ | refine RunL.ev Tryz.tOk rfl rfl rfl ?_ | refine RunE.seq ?_ | refine RunL.nil ?_)
 have k1 : chkP ks [[B], [C, A]] = 0 := chkP_of hkd (by simp) (by simp)
 have k2 : chkP ks [[B, C]] = 0 := chkP_of hkd (by simp) (by simp)
 have k3 : chkP ks [[A, B, C], [O]] = 0 := chkP_of hkd (by simp) (by simp)
 have hrA := flat_row encR hr (show [A, B, C][0]? = some A from rfl)
 have hrB := flat_row encR hr (show [A, B, C][1]? = some B from rfl)
 have hrC := flat_row encR hr (show [A, B, C][2]? = some C from rfl)
 refine RunE.draw (fun _ => False) mix ?_
 intro wd_ Xd_
 repeat' (first | refine AsyN.any ?_ | refine Asy.ev Tryz.tOk rfl rfl rfl ?_ | refine Asy.evV rfl rfl rfl rfl (fun _ X_ => OpV.indexS Tryz.tOk 1 rfl rfl rfl (by first | rfl | omega) (by omega)) ?_ | refine Asy.evV rfl rfl rfl rfl (fun _ X_ => OpV.loadN Tryz.tOk rfl rfl rfl rfl (hrB.up (Xd_.trans X_))) ?_)
 refine Asy.sat0 (fun q w' => ∃ B', q = .slice (some ⟨B', 0, none⟩) 1 1 ∧ LDr w' q [B]) rfl rfl rfl rfl (fun q w' w'' _ e h => by obtain ⟨B', h1, h2⟩ := h; exact ⟨B', h1, h2.up e⟩) (fun w' e => ?_) ?_
 ·refine OpE.mono (OpE.buildL encR Tryz.tOk [B] rfl rfl rfl rfl rfl rfl) ?_ fun _ _ h => h
  rintro _ w'' ⟨⟨B', rfl⟩, h1, h2⟩
  exact ⟨h2, B', rfl, h1⟩
 repeat' (first | refine AsyN.any ?_ | refine Asy.ev Tryz.tOk rfl rfl rfl ?_ | refine Asy.evV rfl rfl rfl rfl (fun _ X_ => OpV.indexS Tryz.tOk 0 rfl rfl rfl (by first | rfl | omega) (by omega)) ?_ | refine Asy.evV rfl rfl rfl rfl (fun _ X_ => OpV.indexS Tryz.tOk 2 rfl rfl rfl (by first | rfl | omega) (by omega)) ?_ | refine Asy.evV rfl rfl rfl rfl (fun _ X_ => OpV.loadN Tryz.tOk rfl rfl rfl rfl (hrA.up (Xd_.trans X_))) ?_ | refine Asy.evV rfl rfl rfl rfl (fun _ X_ => OpV.loadN Tryz.tOk rfl rfl rfl rfl (hrC.up (Xd_.trans X_))) ?_)
 refine Asy.sat0 (fun q w' => ∃ B', q = .slice (some ⟨B', 0, none⟩) 2 2 ∧ LDr w' q [C, A]) rfl rfl rfl rfl (fun q w' w'' _ e h => by obtain ⟨B', h1, h2⟩ := h; exact ⟨B', h1, h2.up e⟩) (fun w' e => ?_) ?_
 ·refine OpE.mono (OpE.buildL encR Tryz.tOk [C, A] rfl rfl rfl rfl rfl rfl) ?_ fun _ _ h => h
  rintro _ w'' ⟨⟨B', rfl⟩, h1, h2⟩
  exact ⟨h2, B', rfl, h1⟩
 refine Asy.sat2 1 0 (fun q w' => InP w' q [[B], [C, A]]) rfl rfl rfl rfl rfl rfl rfl rfl (fun q w' w'' _ e h => h.up e) (fun w' x y e hx hy => ?_) ?_
 ·obtain ⟨B1, rfl, h1⟩ := hx
  obtain ⟨B2', rfl, h2⟩ := hy
  refine OpE.mono (OpE.buildSl Tryz.tOk [.slice (some ⟨B1, 0, none⟩) 1 1, .slice (some ⟨B2', 0, none⟩) 2 2] rfl rfl rfl rfl rfl rfl (by simp [Value.cells])) ?_ fun _ _ h => h
  rintro _ w'' ⟨B9, rfl, a9⟩
  exact ⟨a9.ext, inP_two (isSl_added (n := 2) (sz := 1) a9 rfl) (h1.up a9.ext) (h2.up a9.ext)⟩
 refine Asy.sat1 0 (fun r w' => ∃ u, r = .tuple #[u, .int .i64 0] ∧ MerOut w' [A.d, B.d, C.d] u) rfl rfl rfl rfl rfl rfl (fun q w' w'' _ e h => by obtain ⟨u, h1, h2⟩ := h; exact ⟨u, h1, h2.up e⟩) (fun w' x e hx => ?_) ?_
 ·have hX := Xd_.trans e
  refine OpE.mono (OpE.call rfl (pMerge_ok k1 hki hkl (hk.up hX) hx (fun z hz => ?_) (hS.up (X.trans hX)) (hkT.up (X.trans hX)))) ?_ fun _ _ h => h
  ·replace hz : z ∈ [B, C, A] := hz
   simp only [List.mem_cons, List.not_mem_nil, or_false] at hz
   rcases hz with rfl | rfl | rfl
   ·exact wB.up hX
   ·exact wC.up hX
   ·exact wA.up hX
  ·rintro _ w'' ⟨⟨u, out, rfl, h1, h2, h3⟩, h4⟩
   refine ⟨h4, u, rfl, out, h1, h2.trans eall, fun z hz => ?_⟩
   have hz : z ∈ [B, C, A] := h3 z hz
   simp only [List.mem_cons, List.not_mem_nil, or_false] at hz
   rcases hz with rfl | rfl | rfl
   ·exact wB.up (hX.trans h4)
   ·exact wC.up (hX.trans h4)
   ·exact wA.up (hX.trans h4)
 refine Asy.sat1P Tryz.tOk 0 (fun r w' => ∃ u, r = .tuple #[u, .int .i64 0] ∧ MerOut w' [A.d, B.d, C.d] u) rfl rfl rfl rfl rfl rfl (fun q w' w'' _ e h => by obtain ⟨u, h1, h2⟩ := h; exact ⟨u, h1, h2.up e⟩) (fun w' q e hx => ⟨q, rfl, hx⟩) ?_
 refine Asy.sat1P Tryz.tOk 0 (fun u w' => MerOut w' [A.d, B.d, C.d] u) rfl rfl rfl rfl rfl rfl (fun q w' w'' _ e h => h.up e) (fun w' q e hx => by obtain ⟨u, rfl, h⟩ := hx; exact ⟨u, rfl, h⟩) ?_
 refine Asy.val1P Tryz.tOk 1 (v := .int .i64 0) rfl rfl rfl rfl rfl rfl (fun w' q e hx => by obtain ⟨u, rfl, h⟩ := hx; rfl) ?_
 refine Asy.sat1P Tryz.tOk 0 (fun u w' => MerOut w' [A.d, B.d, C.d] u) rfl rfl rfl rfl rfl rfl (fun q w' w'' _ e h => h.up e) (fun w' q e hx => ⟨q, rfl, hx⟩) ?_
 refine Asy.tail (by kernel_rfl) ?_
 intro we_ Xe_
 simp only [satsAll]
 rintro u13 h13 _ - _ - _ - _ - _ - _ -
 have Xa_ := Xd_.trans Xe_
 clear Xd_ Xe_ hrA hrB hrC k1 eall
 replace hk := hk.up Xa_
 replace hl := hl.up Xa_
 replace hr := hr.up Xa_
 replace wA := wA.up Xa_
 replace wB := wB.up Xa_
 replace wC := wC.up Xa_
 replace wO := wO.up Xa_
 replace Z3 := Z3.up Xa_
 replace X := X.trans Xa_
 clear Xa_
 repeat' (first | (with_reducible refine RunLN.chk ?_; refine RunLN.int (by (rfl)) ?_) | refine RunLN.any ?_ | refine RunL.ev Tryz.tOk rfl rfl rfl ?_ | refine RunL.evV rfl rfl rfl ((OpV.slice1' Tryz.tOk 1 rfl rfl (.some rfl rfl) (by omega) (by omega) (by omega))) ?_ | refine RunE.seq ?_ | refine RunE.region ?_ | refine RunL.nil ?_)
 have hs1 : LDr we_ (.slice (some ⟨b1, o1 + 1 * 39, none⟩) (3 - 1) (cc - 1)) [B, C] := .row (by have := hr.drop (1 * 39); rwa [flat_drop encR] at this) (by rw [flat_length encR]; rfl) (by omega)
 refine RunL.ex rfl rfl rfl (OpE.buildSl Tryz.tOk [.slice (some ⟨b1, o1 + 1 * 39, none⟩) (3 - 1) (cc - 1)] rfl rfl rfl rfl rfl rfl (by simp [Value.cells])) ?_
 rintro _ wg ⟨Bg, rfl, ag⟩
 have hp := inP_one (isSl_added (n := 1) (sz := 1) ag rfl) (hs1.up ag.ext)
 have Xa_ := ag.ext
 clear ag hs1
 replace h13 := h13.up Xa_
 replace hk := hk.up Xa_
 replace hl := hl.up Xa_
 replace hr := hr.up Xa_
 replace wA := wA.up Xa_
 replace wB := wB.up Xa_
 replace wC := wC.up Xa_
 replace wO := wO.up Xa_
 replace Z3 := Z3.up Xa_
 replace X := X.trans Xa_
 clear Xa_
 skip
 refine RunL.call rfl rfl rfl (pMerge_ok k2 hki hkl hk hp (fun z hz => ?_) (hS.up X) (hkT.up X)) ?_
 ·replace hz : z ∈ [B, C] := hz
  simp only [List.mem_cons, List.not_mem_nil, or_false] at hz
  rcases hz with rfl | rfl
  ·exact wB
  ·exact wC
 rintro _ w9 ⟨⟨u15, out15, rfl, h15, e15, -⟩, Xa_⟩
 obtain rfl : out15 = [] := List.map_eq_nil_iff.1 (e15.trans esome)
 replace h15 : IsSl w9 39 u15 0 [] := h15
 clear e15 hp k2 esome
 replace h13 := h13.up Xa_
 replace hk := hk.up Xa_
 replace hl := hl.up Xa_
 replace hr := hr.up Xa_
 replace wA := wA.up Xa_
 replace wB := wB.up Xa_
 replace wC := wC.up Xa_
 replace wO := wO.up Xa_
 replace Z3 := Z3.up Xa_
 replace X := X.trans Xa_
 clear Xa_
 repeat' (first | (with_reducible refine RunLN.chk ?_; refine RunLN.int (by (rfl)) ?_) | refine RunLN.any ?_ | refine RunL.ev Tryz.tOk rfl rfl rfl ?_ | refine RunL.evV rfl rfl rfl (OpV.loadN Tryz.tOk rfl rfl rfl rfl (Blk.row Z3)) ?_ | refine RunE.seq ?_ | refine RunE.region ?_ | refine RunL.nil ?_)
 refine RunL.ex rfl rfl rfl (OpE.buildL encR Tryz.tOk [O] rfl rfl rfl rfl rfl rfl) ?_
 rintro _ wh ⟨⟨Bh, rfl⟩, hO1, Xa_⟩
 replace h13 := h13.up Xa_
 replace hk := hk.up Xa_
 replace hl := hl.up Xa_
 replace hr := hr.up Xa_
 replace wA := wA.up Xa_
 replace wB := wB.up Xa_
 replace wC := wC.up Xa_
 replace wO := wO.up Xa_
 replace Z3 := Z3.up Xa_
 replace X := X.trans Xa_
 clear Xa_
 skip
 refine RunL.ex rfl rfl rfl (OpE.buildSl Tryz.tOk [.slice (some ⟨b1, o1, none⟩) 3 cc, .slice (some ⟨Bh, 0, none⟩) 1 1] rfl rfl rfl rfl rfl rfl (by simp [Value.cells])) ?_
 rintro _ wg ⟨Bg, rfl, ag⟩
 have hp := inP_two (isSl_added (n := 2) (sz := 1) ag rfl) (hl.up ag.ext) (hO1.up ag.ext)
 have Xa_ := ag.ext
 clear ag hO1
 replace h13 := h13.up Xa_
 replace hk := hk.up Xa_
 replace hl := hl.up Xa_
 replace hr := hr.up Xa_
 replace wA := wA.up Xa_
 replace wB := wB.up Xa_
 replace wC := wC.up Xa_
 replace wO := wO.up Xa_
 replace Z3 := Z3.up Xa_
 replace X := X.trans Xa_
 clear Xa_
 skip
 refine RunL.call rfl rfl rfl (pMerge_ok k3 hki hkl hk hp (fun z hz => ?_) (hS.up X) (hkT.up X)) ?_
 ·replace hz : z ∈ [A, B, C, O] := hz
  simp only [List.mem_cons, List.not_mem_nil, or_false] at hz
  rcases hz with rfl | rfl | rfl | rfl
  ·exact wA
  ·exact wB
  ·exact wC
  ·exact wO
 rintro _ w10 ⟨⟨u17, out17, rfl, h17', e17, m17⟩, Xa_⟩
 have h17 : MerOut w10 [A.d, B.d] u17 := ⟨out17, h17', e17.trans eboth, fun z hz => by
  have hz : z ∈ [A, B, C, O] := m17 z hz
  simp only [List.mem_cons, List.not_mem_nil, or_false] at hz
  rcases hz with rfl | rfl | rfl | rfl
  ·exact wA.up Xa_
  ·exact wB.up Xa_
  ·exact wC.up Xa_
  ·exact wO.up Xa_⟩
 clear h17' e17 m17 eboth hp
 replace h13 := h13.up Xa_
 replace hk := hk.up Xa_
 replace hl := hl.up Xa_
 replace hr := hr.up Xa_
 replace wA := wA.up Xa_
 replace wB := wB.up Xa_
 replace wC := wC.up Xa_
 replace wO := wO.up Xa_
 replace Z3 := Z3.up Xa_
 replace X := X.trans Xa_
 clear Xa_
 repeat' (first | (with_reducible refine RunLN.chk ?_; refine RunLN.int (by (rfl)) ?_) | refine RunLN.any ?_ | refine RunL.ev Tryz.tOk rfl rfl rfl ?_ | refine RunL.evV rfl rfl rfl (OpV.loadN Tryz.tOk rfl rfl rfl rfl (Blk.row Z3)) ?_ | refine RunE.seq ?_ | refine RunE.region ?_ | refine RunL.nil ?_)
 refine RunL.ex rfl rfl rfl (OpE.buildL encR Tryz.tOk [O] rfl rfl rfl rfl rfl rfl) ?_
 rintro _ wh ⟨⟨Bh, rfl⟩, hO1, Xa_⟩
 replace h13 := h13.up Xa_
 replace h17 := h17.up Xa_
 replace hk := hk.up Xa_
 replace hl := hl.up Xa_
 replace hr := hr.up Xa_
 replace wA := wA.up Xa_
 replace wB := wB.up Xa_
 replace wC := wC.up Xa_
 replace wO := wO.up Xa_
 replace Z3 := Z3.up Xa_
 replace X := X.trans Xa_
 clear Xa_
 skip
 refine RunL.ex rfl rfl rfl (OpE.buildSl Tryz.tOk [.slice (some ⟨b1, o1, none⟩) 3 cc, .slice (some ⟨Bh, 0, none⟩) 1 1] rfl rfl rfl rfl rfl rfl (by simp [Value.cells])) ?_
 rintro _ wg ⟨Bg, rfl, ag⟩
 have hp := inP_two (isSl_added (n := 2) (sz := 1) ag rfl) (hl.up ag.ext) (hO1.up ag.ext)
 have Xa_ := ag.ext
 clear ag hO1
 replace h13 := h13.up Xa_
 replace h17 := h17.up Xa_
 replace hk := hk.up Xa_
 replace hl := hl.up Xa_
 replace hr := hr.up Xa_
 replace wA := wA.up Xa_
 replace wB := wB.up Xa_
 replace wC := wC.up Xa_
 replace wO := wO.up Xa_
 replace Z3 := Z3.up Xa_
 replace X := X.trans Xa_
 clear Xa_
 skip
 refine RunL.call rfl rfl rfl (pLiars_ok k3 hki hkl hk hp (fun z hz => ?_) (hS.up X) (hkT.up X)) ?_
 ·replace hz : z ∈ [A, B, C, O] := hz
  simp only [List.mem_cons, List.not_mem_nil, or_false] at hz
  rcases hz with rfl | rfl | rfl | rfl
  ·exact wA
  ·exact wB
  ·exact wC
  ·exact wO
 rintro _ w11 ⟨⟨u19, fs19, rfl, h19, e19, m19⟩, Xa_⟩
 replace e19 : fs19.map pairD = [(C.d, O.d)] := e19.trans eliars
 have w19 : ∀ x ∈ fs19, WfX w11 x.a ∧ WfX w11 x.b := fun x hx => by
  have hz : ∀ z ∈ [A, B, C, O], WfX w11 z := fun z hz => by
   simp only [List.mem_cons, List.not_mem_nil, or_false] at hz
   rcases hz with rfl | rfl | rfl | rfl
   ·exact wA.up Xa_
   ·exact wB.up Xa_
   ·exact wC.up Xa_
   ·exact wO.up Xa_
  exact ⟨hz _ (m19 x hx).1, hz _ (m19 x hx).2⟩
 clear m19 eliars hp k3
 replace h13 := h13.up Xa_
 replace h17 := h17.up Xa_
 replace hk := hk.up Xa_
 replace hl := hl.up Xa_
 replace hr := hr.up Xa_
 replace wA := wA.up Xa_
 replace wB := wB.up Xa_
 replace wC := wC.up Xa_
 replace wO := wO.up Xa_
 replace Z3 := Z3.up Xa_
 replace X := X.trans Xa_
 clear Xa_
 have ep0 : provesE ks = 0 := by unfold provesE; rw [hkd]; rfl
 have cP := fun w' (e : Ext w11 w') => mProves_ok ks kv ⟨C, O⟩ w' (hk.up e) hkl hki (wC.up e) (wO.up e) (hS.up (X.trans e)) (hkT.up (X.trans e))
 simp only [epr, ep0] at cP
 have X11 := X
 replace X := ExtB.refl (fun _ => False) w11
 have hrC := flat_row encR hr (show [A, B, C][2]? = some C from rfl)
 repeat' (first | (with_reducible refine RunLN.chk ?_; refine RunLN.int (by (rfl)) ?_) | refine RunLN.any ?_ | refine RunL.ev Tryz.tOk rfl rfl rfl ?_ | refine RunE.seq ?_ | refine RunL.nil ?_)
 refine RunE.draw (fun _ => False) mix ?_
 intro wd_ Xd_
 repeat' (first | with_reducible refine AsyN.boolT rfl ?_ | (with_reducible refine AsyN.chk ?_; refine AsyN.int (by (rfl)) ?_) | refine AsyN.any ?_ | refine Asy.ev Tryz.tOk rfl rfl ((build_fork C O rfl rfl)) ?_ | refine Asy.ev Tryz.tOk rfl rfl rfl ?_ | refine Asy.evV rfl rfl rfl rfl (fun _ X_ => OpV.indexS Tryz.tOk 2 rfl rfl rfl (by first | rfl | omega) (by omega)) ?_ | refine Asy.evV rfl rfl rfl rfl (fun _ X_ => OpV.loadN Tryz.tOk rfl rfl rfl rfl (hrC.up (Xd_.trans X_))) ?_ | refine Asy.evV rfl rfl rfl rfl (fun _ X_ => OpV.loadN Tryz.tOk rfl rfl rfl rfl (Blk.row (Z3.up (Xd_.trans X_)))) ?_ | refine Asy.callN rfl rfl rfl (fun _ X_ => (cP _ (X.trans (Xd_.trans X_)))) ?_)
 refine Asy.end_ (by kernel_rfl) ?_
 intro we_ Xe_
 have Xa_ := Xd_.trans Xe_
 clear Xd_ Xe_ cP epr
 replace h13 := h13.up Xa_
 replace h17 := h17.up Xa_
 replace h19 := h19.up Xa_
 replace w19 := fun x hx => And.intro ((w19 x hx).1.up Xa_) ((w19 x hx).2.up Xa_)
 replace X11 := X11.trans Xa_
 replace hk := hk.up Xa_
 replace hl := hl.up Xa_
 replace hr := hr.up Xa_
 replace wA := wA.up Xa_
 replace wB := wB.up Xa_
 replace wC := wC.up Xa_
 replace wO := wO.up Xa_
 replace Z3 := Z3.up Xa_
 replace X := X.trans Xa_
 clear Xa_
 have cP := mProves_ok ks kv ⟨O, O⟩ we_ hk hkl hki wO wO (hS.up X11) (hkT.up X11)
 simp only [esm, ep0] at cP
 replace X := ExtB.refl (fun _ => False) we_
 clear hrC
 repeat' (first | refine RunLN.any ?_ | refine RunL.ev Tryz.tOk rfl rfl ((build_fork O O rfl rfl)) ?_ | refine RunL.ev Tryz.tOk rfl rfl rfl ?_ | refine RunL.evV rfl rfl rfl (OpV.loadN Tryz.tOk rfl rfl rfl rfl (Blk.row Z3)) ?_ | refine RunE.seq ?_ | refine RunE.region ?_ | refine RunL.nil ?_)
 refine RunL.call rfl rfl rfl cP ?_
 rintro _ w12 ⟨rfl, Xa_⟩
 clear cP esm
 replace h13 := h13.up Xa_
 replace h17 := h17.up Xa_
 replace h19 := h19.up Xa_
 replace w19 := fun x hx => And.intro ((w19 x hx).1.up Xa_) ((w19 x hx).2.up Xa_)
 replace X11 := X11.trans Xa_
 replace hk := hk.up Xa_
 replace hl := hl.up Xa_
 replace hr := hr.up Xa_
 replace wA := wA.up Xa_
 replace wB := wB.up Xa_
 replace wC := wC.up Xa_
 replace wO := wO.up Xa_
 replace Z3 := Z3.up Xa_
 replace X := X.trans Xa_
 clear Xa_
 replace X := X11
 clear X11
 repeat' (first | with_reducible refine RunLN.boolT rfl ?_ | with_reducible refine RunLN.boolF rfl ?_ | (with_reducible refine RunLN.chk ?_; refine RunLN.int (by (first | (refine wr_i64 ?_ ?_; omega; omega) | rfl)) ?_) | refine RunLN.any ?_ | refine RunL.ev Tryz.tOk rfl rfl rfl ?_ | refine RunL.evV rfl rfl rfl (OpV.lenSl Tryz.tOk rfl rfl h5) ?_ | refine RunL.evV rfl rfl rfl (OpV.lenSl Tryz.tOk rfl rfl h9) ?_ | refine RunE.condF rfl rfl ?_ | refine RunE.seq ?_ | refine RunE.region ?_ | refine RunL.nil ?_ | refine RunE.skip ?_)
 obtain ⟨out13, a13, e13, x13⟩ := h13
 obtain ⟨out17, a17, e17, x17⟩ := h17
 have l13 : out13.length = 3 := lenM e13
 have l17 : out17.length = 2 := lenM e17
 have l19 : fs19.length = 1 := lenF e19
 have hs2 : LDr w12 (.slice (some ⟨b1, o1, none⟩) 2 cc) [A, B] := .row (by have := hr.take (2 * 39); rwa [flat_take encR] at this) (by rw [flat_length encR]; rfl) (by omega)
 have wABC : ∀ z ∈ [A, B, C], WfX w12 z := fun z hz => by
  simp only [List.mem_cons, List.not_mem_nil, or_false] at hz
  rcases hz with rfl | rfl | rfl
  ·exact wA
  ·exact wB
  ·exact wC
 have wAB : ∀ z ∈ [A, B], WfX w12 z := fun z hz => wABC z (by
  simp only [List.mem_cons, List.not_mem_nil, or_false] at hz ⊢
  rcases hz with rfl | rfl <;> simp)
 have cS1 := fun w' (e : Ext w12 w') => rSame_true out13 [A, B, C] u13 (.slice (some ⟨b1, o1, none⟩) 3 cc) w' (a13.up e) (hl.up e) e13 (by rw [l13]; decide) (fun x hx => (x13 x hx).up e) (fun x hx => (wABC x hx).up e)
 have cS2 := fun w' (e : Ext w12 w') => rSame_true out17 [A, B] u17 (.slice (some ⟨b1, o1, none⟩) 2 cc) w' (a17.up e) (hs2.up e) e17 (by rw [l17]; decide) (fun x hx => (x17 x hx).up e) (fun x hx => (wAB x hx).up e)
 have cS3 := fun q w' (e : Ext w12 w') (hq : LFr w' q [⟨C, O⟩]) => rSameForks_ok fs19 [⟨C, O⟩] u19 q w' (h19.up e) hq (by rw [l19]; decide) e19 (fun x hx => ⟨(w19 x hx).1.up e, (w19 x hx).2.up e⟩) (fun x hx => by
  rw [List.mem_singleton] at hx; subst hx; exact ⟨wC.up e, wO.up e⟩)
 have X12 := X
 replace X := ExtB.refl (fun _ => False) w12
 have hrC := flat_row encR hr (show [A, B, C][2]? = some C from rfl)
 clear wABC wAB e13 e17 e19 l13 l17 l19 hkd ep0
 skip
 refine RunE.draw (fun _ => False) mix ?_
 intro wd_ Xd_
 repeat' (first | with_reducible refine AsyN.boolT rfl ?_ | (with_reducible refine AsyN.chk ?_; refine AsyN.int (by (rfl)) ?_) | refine AsyN.any ?_ | refine Asy.ev Tryz.tOk rfl rfl ((build_fork C O rfl rfl)) ?_ | refine Asy.ev Tryz.tOk rfl rfl rfl ?_ | refine Asy.callN rfl rfl rfl (fun _ X_ => (cS1 _ (Xd_.trans X_))) ?_ | refine Asy.evV rfl rfl rfl rfl (fun _ X_ => OpV.lenSl Tryz.tOk rfl rfl h15) ?_ | refine Asy.evV rfl rfl rfl rfl (fun _ X_ => (OpV.slice0 Tryz.tOk (hi := 2) rfl rfl .none (.some rfl rfl) (by omega))) ?_ | refine Asy.callN rfl rfl rfl (fun _ X_ => (cS2 _ (Xd_.trans X_))) ?_ | refine Asy.evV rfl rfl rfl rfl (fun _ X_ => OpV.indexS Tryz.tOk 2 rfl rfl rfl (by first | rfl | omega) (by omega)) ?_ | refine Asy.evV rfl rfl rfl rfl (fun _ X_ => OpV.loadN Tryz.tOk rfl rfl rfl rfl (hrC.up (Xd_.trans X_))) ?_ | refine Asy.evV rfl rfl rfl rfl (fun _ X_ => OpV.loadN Tryz.tOk rfl rfl rfl rfl (Blk.row (Z3.up (Xd_.trans X_)))) ?_)
 refine Asy.sat0 (fun q w' => LFr w' q [⟨C, O⟩]) rfl rfl rfl rfl (fun q w' w'' _ e h => h.up e) (fun w' e => ?_) ?_
 ·refine OpE.mono (OpE.buildL encF Tryz.tOk [⟨C, O⟩] rfl rfl rfl rfl rfl rfl) ?_ fun _ _ h => h
  rintro _ w'' ⟨-, h1, h2⟩
  exact ⟨h2, h1⟩
 refine Asy.val1 0 (v := .bool true) rfl rfl rfl rfl rfl rfl (fun w' q e hx => OpE.call rfl (cS3 q w' (Xd_.trans e) hx)) ?_
 repeat' (first | with_reducible refine AsyN.boolT rfl ?_ | refine Asy.ev Tryz.tOk rfl rfl rfl ?_)
 refine Asy.tail (by kernel_rfl) ?_
 intro we_ Xe_
 simp only [satsAll]
 rintro _ -
 repeat' (first | refine RunL.nil ?_)
 exact RunE.retFn Tryz.func10 (.tmp rfl .nil) ⟨rfl, X12.trans (Xd_.trans Xe_)⟩
end Go.Sg
end
