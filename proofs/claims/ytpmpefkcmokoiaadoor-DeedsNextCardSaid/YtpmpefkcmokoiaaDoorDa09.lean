/- Parts of this project that the claims share: Dee7, Const, DeeU, Close, Flat, OpenL, CloseT, Laid, OpenS, DeeO, DeeV. -/
import Derived.Test.YtpmpefkcmokoiaaDoorDa08
import Derived.Test.YtpmpefkcmokoiaaDoorDa04
import Derived.Test.YtpmpefkcmokoiaaDoorDa05
import Derived.Test.YtpmpefkcmokoiaaDoorDa02
import Derived.Lib.SlBytesConst
import Derived.Test.YtpmpefkcmokoiaaDoorRows
import Derived.WalkKit
import Derived.ProofKit
import Derived.OpenShut
import Derived.Carry
import Derived.ChangeSame
import Derived.Test.YtpmpefkcmokoiaaDoorDa06
import Derived.Test.YtpmpefkcmokoiaaDoorDa03
import Derived.Test.YtpmpefkcmokoiaaDoorTie
import Derived.Test.YtpmpefkcmokoiaaDoorCards
import Derived.LaidMore
import Derived.Stop.Joined
import Derived.MakeChecks
import Derived.ChangeMaps5
set_option linter.unusedSimpArgs false
set_option linter.unusedVariables false
set_option linter.unusedSectionVars false
section
/- Deeds, the reference: bytes, Text, Id, Make, Few. -/
namespace Go.Sg
open Go.Rn Go.Proofs Go.Dee Go.Rec Go.RowKit Go.Sha Go.Cod Go.NT
attribute [local irreducible] Go.Rn.RetsX Go.Rn.RunLN Go.Rn.AsyN Go.Rn.RunL Go.Rn.RunE Go.Rn.Asy Go.Rn.OpV Go.Rn.OpE Go.Rn.ExecE
theorem bytesV_snoc {l : List UInt8} {i : Nat} (h : i < l.length) : bytesV (l.take (i + 1)) = bytesV (l.take i) ++ [.int .u8 ((l.getD i 0).toNat : Int)] := by
  rw [List.take_add_one, List.getElem?_eq_getElem h, List.getD_eq_getElem?_getD, List.getElem?_eq_getElem h]
  simp only [bytesV, List.map_append]
  rfl
set_option maxRecDepth 4000 in
set_option maxHeartbeats 2000000 in
theorem rbytes_ok (x : Dg) (w : World) : Rets Tryd.prog 32 [.agg (digC x).toArray] w fun r w' => r = .agg (rowT x).toArray ∧ Ext w w' := by
  refine RetsX.of (nt := 19) Tryd.func32 (by kernel_rfl) rfl rfl (by simp) (by simp only [argEnv]; rfl) ?_
  have X := ExtB.refl (fun _ => False) w
  repeat' (first | refine RunE.seq ?_ | refine RunE.region ?_)
  refine RunL.box rfl rfl rfl fun B1 w1_ a_ => ?_
  have Z1 : Blk w1_ B1 (digC x) 23 := a_.at_
  have gB1 := a_.ge X
  replace X := X.trans a_.ext
  clear a_
  skip
  refine RunL.alloc Tryd.tOk rfl rfl rfl fun B2 w2_ a_ => ?_
  have Z2 : Blk w2_ B2 (z4) 57 := a_.at_
  have gB2 := a_.ge X
  have n1_2 : B1 ≠ B2 := by have := Z1.lt; have := a_.eq; omega
  have n2_1 : B2 ≠ B1 := Ne.symm n1_2
  replace Z1 := Z1.up a_.ext
  replace X := X.trans a_.ext
  clear a_
  repeat' (first | refine RunE.seq ?_ | refine RunE.region ?_ | refine RunL.nil ?_)
  refine RunL.ex rfl rfl rfl (OpE.buildSl Tryd.tOk [] rfl rfl rfl rfl rfl rfl (by simp)) ?_
  rintro _ w3 ⟨B, rfl, a3⟩
  have O3 : w3.ownsRow w.heap.size 5 1 (.slice (some ⟨B, 0, none⟩) 0 0) (x.1.take 0).length (bytesV (x.1.take 0)) := ownsRow_added (cs := []) a3 (a3.ge X) rfl (by decide)
  have hne : ∀ k, (Value.slice (some ⟨B, 0, none⟩) 0 0).ownBlock = some k → k ≠ B1 ∧ k ≠ B2 := fun k hk => by
    simp [Value.ownBlock] at hk
    have := a3.eq; have := Z1.lt; have := Z2.lt
    omega
  replace X := X.trans a3.ext
  replace Z1 := Z1.up a3.ext
  replace Z2 := Z2.up a3.ext
  clear a3
  repeat' (first | (with_reducible refine RunLN.chk ?_; refine RunLN.int (by (first | (refine wr_i64 ?_ ?_; omega; omega) | (refine wm_i64 ?_; omega) | (refine wq_i64 ?_ ?_ ?_; omega; omega; omega) | rfl)) ?_) | refine RunLN.any ?_ | refine RunL.ev Tryd.tOk rfl rfl rfl ?_ | refine RunE.seq ?_ | refine RunE.region ?_ | refine RunL.nil ?_ | refine RunE.block ?_)
  refine RunE.loop (ι := Nat × Value) (fun s => [(0, .agg (digC x).toArray), (1, .pointer (some ⟨B1, 0, none⟩)), (2, .pointer (some ⟨B2, 0, none⟩)), (3, s.2), (4, .int .i64 (s.1 : Int))])
    (fun s w' => s.1 ≤ 32 ∧ w'.ownsRow w.heap.size 5 1 s.2 (x.1.take s.1).length (bytesV (x.1.take s.1)) ∧ (∀ k, s.2.ownBlock = some k → k ≠ B1 ∧ k ≠ B2) ∧ Ext w w' ∧ Blk w' B1 (digC x) 23 ∧ Blk w' B2 z4 57) (fun s => 32 - s.1) (0, .slice (some ⟨B, 0, none⟩) 0 0) (by repeat (first | exact Sub.nil _ | refine Sub.cons rfl ?_))
    ⟨Nat.zero_le _, O3, hne, X, Z1, Z2⟩ ?_
  clear X Z1 Z2 hne O3
  rintro ⟨i, y⟩ w4 ⟨hi, hO, hne, X, Z1, Z2⟩ again
  simp only at hi hO hne again ⊢
  by_cases hlt : i < 32
  · have hx := digC_at (x := x) hlt
    have e1 := bytesV_snoc (l := x.1) (i := i) (by rw [x.2]; exact hlt)
    have e2 : (x.1.take (i + 1)).length = (x.1.take i).length + 1 := by simp [x.2]; omega
    have hfl : (x.1.take i).length ≤ 32 := by simp; omega
    have next : ∀ (u' : Value) w', _ → _ → _ → _ → _ → _ := fun u' w' a b c d e => again (i + 1, u') w' (by simp only; omega) ⟨by simp only; omega, a, b, c, d, e⟩
    simp only [e1, e2] at next
    clear again e1 e2
    generalize x.1.take i = f at hO next hfl
    obtain ⟨dy, cy, rfl⟩ := isSl_slice (isSl_own hO)
    repeat' (first | (with_reducible refine RunLN.decT ?_ ?_; focus omega) | (with_reducible refine RunLN.chk ?_; refine RunLN.int (by (first | (refine wr_i64 ?_ ?_; omega; omega) | (refine wm_i64 ?_; omega) | (refine wq_i64 ?_ ?_ ?_; omega; omega; omega) | rfl)) ?_) | refine RunLN.any ?_ | refine RunL.ev Tryd.tOk rfl rfl rfl ?_ | refine RunL.evV rfl rfl rfl ((OpV.indexA Tryd.tOk i rfl rfl rfl rfl hlt)) ?_ | refine RunL.evV rfl rfl rfl ((OpV.load1 Tryd.tOk rfl rfl rfl (Blk.cell Z1 hx))) ?_ | refine RunE.condT rfl rfl ?_ | refine RunE.seq ?_ | refine RunE.region ?_ | refine RunL.nil ?_ | refine RunE.block ?_ | refine RunE.skip ?_)
    refine RunL.ex rfl rfl rfl (OpE.buildSl Tryd.tOk [cB x i] rfl rfl rfl rfl rfl rfl (by simp [Value.cells, cB])) ?_
    rintro _ w5 ⟨B5, rfl, a5⟩
    have h5 : IsSl w5 1 (.slice (some ⟨B5, 0, none⟩) 1 1) 1 [cB x i] := isSl_added (n := 1) (sz := 1) a5 rfl
    replace hO := hO.up a5.ext
    replace X := X.trans a5.ext
    replace Z1 := Z1.up a5.ext
    replace Z2 := Z2.up a5.ext
    clear a5
    skip
    have l1 := Z1.lt
    have l2 := Z2.lt
    refine RunL.ex rfl rfl rfl (OpE.append' Tryd.tOk rfl rfl rfl rfl rfl rfl hO h5 (by rfl) (by show _ * 1 ≤ _; omega) (by omega) X.size) ?_
    rintro u' u5 ⟨O5, E5, hown⟩
    have hne5 : ∀ k, u'.ownBlock = some k → k ≠ B1 ∧ k ≠ B2 := fun k hk => ⟨fun e => (hne _ (hown _ hk (by omega))).1 e, fun e => (hne _ (hown _ hk (by omega))).2 e⟩
    replace X : Ext w u5 := X.write E5 (by intro k hk hlt; have := ownsRow_ge hO hk; omega)
    replace Z1 := Z1.ext E5 (fun h => (hne _ h).1 rfl)
    replace Z2 := Z2.ext E5 (fun h => (hne _ h).2 rfl)
    clear E5 hown h5 hO
    repeat' (first | (with_reducible refine RunLN.chk ?_; refine RunLN.int (by (first | (refine wr_i64 ?_ ?_; omega; omega) | (refine wm_i64 ?_; omega) | (refine wq_i64 ?_ ?_ ?_; omega; omega; omega) | rfl)) ?_) | refine RunLN.any ?_ | refine RunL.ev Tryd.tOk rfl rfl rfl ?_ | refine RunE.region ?_ | refine RunL.nil ?_ | refine RunE.inBlock ?_)
    exact RunE.weaken (by repeat (first | exact Sub.nil _ | refine Sub.cons rfl ?_)) (next _ _ O5 hne5 X Z1 Z2)
  · obtain rfl : i = 32 := by omega
    have e1 : x.1.take 32 = x.1 := List.take_of_length_le (by rw [x.2]; exact Nat.le_refl _)
    rw [e1] at hO
    have hb := isSl_own hO
    clear again hO
    repeat' (first | with_reducible refine RunLN.boolF rfl ?_ | (with_reducible refine RunLN.chk ?_; refine RunLN.int (by (first | (refine wr_i64 ?_ ?_; omega; omega) | (refine wm_i64 ?_; omega) | (refine wq_i64 ?_ ?_ ?_; omega; omega; omega) | rfl)) ?_) | refine RunLN.any ?_ | refine RunL.ev Tryd.tOk rfl rfl rfl ?_ | refine RunL.evV rfl rfl rfl ((OpV.b2sSl (l := x.1) Tryd.tOk rfl rfl rfl rfl hb)) ?_ | refine RunE.condF rfl rfl ?_ | refine RunE.seq ?_ | refine RunE.region ?_ | refine RunL.nil ?_ | refine RunE.exit rfl ?_)
    refine RunL.call rfl rfl rfl (rtext_ok _ _) ?_
    rintro _ _ ⟨rfl, Xa_⟩
    replace Z2 := Z2.up Xa_
    replace X := X.trans Xa_
    clear Xa_
    skip
    refine RunL.storeW (vs := rowT x) Tryd.tOk rfl rfl rfl rfl rfl Z2 rfl rfl fun w_ t_ => ?_
    replace X := X.own t_.ext gB2
    replace Z2 : Blk w_ B2 (rowT x) 57 := t_.at_
    clear t_
    repeat' (first | refine RunL.nil ?_)
    exact RunE.retFn Tryd.func32 (.cell rfl (.agg Tryd.tOk rfl rfl rfl Z2.row) .nil) ⟨rfl, X⟩
set_option maxRecDepth 4000 in
set_option maxHeartbeats 4000000 in
theorem rText_ok (d : Deed) (u v : Value) (w : World) (hs : LDg w u d.seen) (hb : LBy w v d.data) (hf : formedD d = true) :
    Rets Tryd.prog 16 [.agg (dCells d u v).toArray] w fun r w' => w'.ownsRow w.heap.size 5 1 r (textD d).length (bytesV (textD d)) ∧ Ext w w' := by
  have hn := (formedD_inv hf).1
  have henc := deed_enc hf
  have hdep := deed_depth d
  have hsl : d.seen.length ≤ 64 := hn.2.2.2.2.2.2.1
  have hdl : d.data.length ≤ 65536 := hn.2.2.2.2.2.2.2
  clear hn
  refine RetsX.of (nt := 49) Tryd.func16 (by kernel_rfl) rfl rfl (by simp) (by simp only [argEnv]; rfl) ?_
  have X := ExtB.refl (fun _ => False) w
  repeat' (first | refine RunE.seq ?_ | refine RunE.region ?_)
  refine RunL.box rfl rfl rfl fun B1 w1_ a_ => ?_
  have Z1 : Blk w1_ B1 (dCells d u v) 29 := a_.at_
  have gB1 := a_.ge X
  replace X := X.trans a_.ext
  clear a_
  repeat' (first | refine RunLN.any ?_ | refine RunL.ev Tryd.tOk rfl rfl rfl ?_ | refine RunE.seq ?_ | refine RunE.region ?_ | refine RunL.nil ?_)
  refine RunL.ex rfl rfl rfl (OpE.buildSl Tryd.tOk [] rfl rfl rfl rfl rfl rfl (by simp)) ?_
  rintro _ w3 ⟨B, rfl, a3⟩
  have O3 : w3.ownsRow w.heap.size 57 4 (.slice (some ⟨B, 0, none⟩) 0 0) (d.seen.take 0).length (flat rowT (d.seen.take 0)) := ownsRow_added (cs := []) a3 (a3.ge X) rfl (by decide)
  have hne : ∀ k, (Value.slice (some ⟨B, 0, none⟩) 0 0).ownBlock = some k → k ≠ B1 := fun k hk => by
    simp [Value.ownBlock] at hk
    have := a3.eq; have := Z1.lt
    omega
  replace X := X.trans a3.ext
  replace Z1 := Z1.up a3.ext
  clear a3
  repeat' (first | (with_reducible refine RunLN.chk ?_; refine RunLN.int (by (first | (refine wr_i64 ?_ ?_; omega; omega) | (refine wm_i64 ?_; omega) | (refine wq_i64 ?_ ?_ ?_; omega; omega; omega) | rfl)) ?_) | refine RunLN.any ?_ | refine RunL.ev Tryd.tOk rfl rfl rfl ?_ | refine RunE.seq ?_ | refine RunE.region ?_ | refine RunL.nil ?_ | refine RunE.block ?_)
  refine RunE.loop (ι := Nat × Value) (fun s => [(0, .agg (dCells d u v).toArray), (1, .pointer (some ⟨B1, 0, none⟩)), (2, .slice none 0 0), (3, s.2), (4, .int .i64 (s.1 : Int))])
    (fun s w' => s.1 ≤ d.seen.length ∧ w'.ownsRow w.heap.size 57 4 s.2 (d.seen.take s.1).length (flat rowT (d.seen.take s.1)) ∧ (∀ k, s.2.ownBlock = some k → k ≠ B1) ∧ Ext w w' ∧ Blk w' B1 (dCells d u v) 29) (fun s => d.seen.length - s.1) (0, .slice (some ⟨B, 0, none⟩) 0 0) (by repeat (first | exact Sub.nil _ | refine Sub.cons rfl ?_))
    ⟨Nat.zero_le _, O3, hne, X, Z1⟩ ?_
  clear X Z1 hne O3
  rintro ⟨i, y⟩ w3 ⟨hi, hO, hne, X, Z1⟩ again
  simp only at hi hO hne again ⊢
  by_cases hlt : i < d.seen.length
  · obtain ⟨b1, o1, c1, rfl, hr1, -⟩ := isL_held hs hlt
    obtain ⟨x, hx⟩ : ∃ x, d.seen[i]? = some x := ⟨_, List.getElem?_eq_getElem hlt⟩
    have hrx := flat_row encG hr1 hx
    have e1 : d.seen.take (i + 1) = d.seen.take i ++ [x] := by rw [List.take_add_one, hx]; rfl
    have hfl : (d.seen.take i).length ≤ 100 := by simp; omega
    have next : ∀ (u' : Value) w', _ → _ → _ → _ → _ := fun u' w' a b c d => again (i + 1, u') w' (by simp only; omega) ⟨by simp only; omega, a, b, c, d⟩
    simp only [e1] at next
    clear again e1
    generalize d.seen.take i = f at hO next hfl
    obtain ⟨dy, cy, rfl⟩ := isSl_slice (isSl_own hO)
    repeat' (first | (with_reducible refine RunLN.decT ?_ ?_; focus omega) | (with_reducible refine RunLN.chk ?_; refine RunLN.int (by (first | (refine wr_i64 ?_ ?_; omega; omega) | (refine wm_i64 ?_; omega) | (refine wq_i64 ?_ ?_ ?_; omega; omega; omega) | rfl)) ?_) | refine RunLN.any ?_ | refine RunL.ev Tryd.tOk rfl rfl rfl ?_ | refine RunL.evV rfl rfl rfl (OpV.load1 Tryd.tOk rfl rfl rfl (Blk.cell Z1 rfl)) ?_ | refine RunL.evV rfl rfl rfl (OpV.indexS Tryd.tOk i rfl rfl rfl (by first | rfl | omega) (by omega)) ?_ | refine RunL.evV rfl rfl rfl (OpV.loadN Tryd.tOk rfl rfl rfl rfl (hrx.up X)) ?_ | refine RunE.condT rfl rfl ?_ | refine RunE.seq ?_ | refine RunE.region ?_ | refine RunL.nil ?_ | refine RunE.block ?_ | refine RunE.skip ?_)
    refine RunL.call rfl rfl rfl (rbytes_ok x _) ?_
    rintro _ _ ⟨rfl, Xa_⟩
    replace Z1 := Z1.up Xa_
    replace hO := hO.up Xa_
    replace X := X.trans Xa_
    clear Xa_
    skip
    refine RunL.ex rfl rfl rfl (OpE.buildSl Tryd.tOk [.agg (rowT x).toArray] rfl rfl rfl rfl rfl rfl (by simp [Value.cells])) ?_
    rintro _ w_ ⟨B_, rfl, a_⟩
    have hx1 : LTx w_ (.slice (some ⟨B_, 0, none⟩) 1 1) [x] := (isSl_added (n := 1) (sz := 4) a_ rfl)
    replace Z1 := Z1.up a_.ext
    replace hO := hO.up a_.ext
    replace X := X.trans a_.ext
    clear a_
    skip
    have l1 := Z1.lt
    refine RunL.ex rfl rfl rfl (OpE.append' Tryd.tOk rfl rfl rfl rfl rfl rfl hO hx1 (flat_plain encT' [x]) (by show _ * 56 ≤ _; simp only [List.length_singleton]; omega) (by simp only [List.length_singleton]; omega) X.size) ?_
    rintro u' u5 ⟨O5, E5, hown⟩
    have hne5 : ∀ k, u'.ownBlock = some k → k ≠ B1 := fun k hk e => hne _ (hown _ hk (by omega)) e
    replace X : Ext w u5 := X.write E5 (by intro k hk hlt; have := ownsRow_ge hO hk; omega)
    replace Z1 := Z1.ext E5 (fun h => hne _ h rfl)
    clear E5 hown hx1 hO
    repeat' (first | (with_reducible refine RunLN.chk ?_; refine RunLN.int (by (first | (refine wr_i64 ?_ ?_; omega; omega) | (refine wm_i64 ?_; omega) | (refine wq_i64 ?_ ?_ ?_; omega; omega; omega) | rfl)) ?_) | refine RunLN.any ?_ | refine RunL.ev Tryd.tOk rfl rfl rfl ?_ | refine RunE.region ?_ | refine RunL.nil ?_ | refine RunE.inBlock ?_)
    exact RunE.weaken (by repeat (first | exact Sub.nil _ | refine Sub.cons rfl ?_)) (next _ _ (by rw [List.length_append, flat_append]; exact O5) hne5 X Z1)
  · obtain rfl : i = d.seen.length := by omega
    rw [List.take_length] at hO
    obtain ⟨dy, cy, rfl⟩ := isSl_slice (isSl_own hO)
    have hvs : LTx w3 (.slice dy d.seen.length cy) d.seen := isSl_own hO
    clear again hO hne
    replace hb := hb.up X
    have clist := rlist_ok
    have cenc := rEncode_ok
    repeat' (first | (with_reducible refine RunLN.decF ?_ ?_; focus omega) | (with_reducible refine RunLN.chk ?_; refine RunLN.int (by (first | (refine wr_i64 ?_ ?_; omega; omega) | (refine wm_i64 ?_; omega) | (refine wq_i64 ?_ ?_ ?_; omega; omega; omega) | rfl)) ?_) | refine RunLN.any ?_ | refine RunL.ev Tryd.tOk rfl rfl rfl ?_ | refine RunL.evV rfl rfl rfl (OpV.load1 Tryd.tOk rfl rfl rfl (Blk.cell Z1 rfl)) ?_ | refine RunL.evV rfl rfl rfl (OpV.lenSl Tryd.tOk rfl rfl hs) ?_ | refine RunE.condF rfl rfl ?_ | refine RunE.seq ?_ | refine RunE.region ?_ | refine RunL.nil ?_ | refine RunE.exit rfl ?_)
    refine RunE.draw (fun _ => False) mix ?_
    intro wd_ Xd_
    repeat' (first | (with_reducible refine AsyN.chk ?_; refine AsyN.int (by (first | (refine wr_i64 ?_ ?_; omega; omega) | (refine wm_i64 ?_; omega) | (refine wq_i64 ?_ ?_ ?_; omega; omega; omega) | rfl)) ?_) | refine AsyN.any ?_ | refine Asy.ev Tryd.tOk rfl rfl rfl ?_ | refine Asy.evV rfl rfl rfl rfl (fun _ X_ => OpV.load1 Tryd.tOk rfl rfl rfl (Blk.cell (Z1.up (Xd_.trans X_)) rfl)) ?_ | refine Asy.callN rfl rfl rfl (fun _ _ => (rint_ok _ _)) ?_ | refine Asy.callN rfl rfl rfl (fun _ _ => (rbytes_ok _ _)) ?_ | refine Asy.callN rfl rfl rfl (fun _ _ => (rlist_ok _ _ _ _)) ?_ | refine Asy.callN rfl rfl rfl (fun _ _ => (rtext_ok _ _)) ?_ | refine Asy.evV rfl rfl rfl rfl (fun _ X_ => OpV.loadN Tryd.tOk rfl rfl rfl rfl ((row_prev (Blk.row Z1)).up (Xd_.trans X_))) ?_ | refine Asy.evV rfl rfl rfl rfl (fun _ X_ => (OpV.b2sSl (l := d.data) Tryd.tOk rfl rfl rfl rfl (hb.up (Xd_.trans X_)))) ?_)
    refine Asy.sat0 (fun q w' => ∃ B, q = .slice (some ⟨B, 0, none⟩) 6 6 ∧ IsSl w' 4 q 6 (rowN d.person ++ rowN d.no ++ rowN d.at_ ++ rowT d.prev ++ rowL (.slice dy d.seen.length cy) ++ rowX d.data)) rfl rfl rfl rfl (fun q w' w'' _ e h => by obtain ⟨B, h1, h2⟩ := h; exact ⟨B, h1, h2.up e⟩) (fun w' _ => ?_) ?_
    · refine OpE.mono (OpE.buildSl Tryd.tOk [.agg (rowN d.person).toArray, .agg (rowN d.no).toArray, .agg (rowN d.at_).toArray, .agg (rowT d.prev).toArray, .agg (rowL (.slice dy d.seen.length cy)).toArray, .agg (rowX d.data).toArray] rfl rfl rfl rfl rfl rfl (by simp [Value.cells])) ?_ fun _ _ h => h
      rintro _ w'' ⟨B, rfl, a⟩
      exact ⟨a.ext, B, rfl, isSl_added (n := 6) (sz := 4) a rfl⟩
    refine Asy.sat1 0 (fun q w' => ∃ B, q = .agg (rowL (.slice (some ⟨B, 0, none⟩) 6 6)).toArray ∧ IsSl w' 4 (.slice (some ⟨B, 0, none⟩) 6 6) 6 (rowN d.person ++ rowN d.no ++ rowN d.at_ ++ rowT d.prev ++ rowL (.slice dy d.seen.length cy) ++ rowX d.data)) rfl rfl rfl rfl rfl rfl (fun q w' w'' _ e h => by obtain ⟨B, h1, h2⟩ := h; exact ⟨B, h1, h2.up e⟩) (fun w' q e hx => ?_) ?_
    · obtain ⟨B, rfl, h2⟩ := hx
      refine OpE.mono (OpE.call rfl (clist _ _ _ _)) ?_ fun _ _ h => h
      rintro _ w'' ⟨rfl, h⟩
      exact ⟨h, B, rfl, h2.up h⟩
    refine Asy.sat1 0 (fun q w' => ∃ r, q = .tuple #[r, .int .i64 0] ∧ w'.ownsRow w.heap.size 5 1 r (textD d).length (bytesV (textD d))) rfl rfl rfl rfl rfl rfl (fun q w' w'' _ e h => by obtain ⟨r, h1, h2⟩ := h; exact ⟨r, h1, h2.up e⟩) (fun w' q e hx => ?_) ?_
    · obtain ⟨B, rfl, h2⟩ := hx
      refine OpE.mono (OpE.call rfl (cenc _ _ w' (deed_in hf (hvs.up (Xd_.trans e)) h2) hdep (Nat.le_trans henc (by decide)))) ?_ fun _ _ h => h
      rintro _ w'' ⟨r, rfl, O, h⟩
      exact ⟨h, r, rfl, ownsRow_base O (Nat.le_trans X.size (Xd_.trans e).size)⟩
    refine Asy.sat1P Tryd.tOk 0 (fun q w' => ∃ r, q = .tuple #[r, .int .i64 0] ∧ w'.ownsRow w.heap.size 5 1 r (textD d).length (bytesV (textD d))) rfl rfl rfl rfl rfl rfl (fun q w' w'' _ e h => by obtain ⟨r, h1, h2⟩ := h; exact ⟨r, h1, h2.up e⟩) (fun w' q e hx => ⟨q, rfl, hx⟩) ?_
    refine Asy.sat1P Tryd.tOk 0 (fun q w' => w'.ownsRow w.heap.size 5 1 q (textD d).length (bytesV (textD d))) rfl rfl rfl rfl rfl rfl (fun q w' w'' _ e h => h.up e) (fun w' q e hx => by obtain ⟨r, rfl, h⟩ := hx; exact ⟨r, rfl, h⟩) ?_
    refine Asy.val1P Tryd.tOk 1 (v := .int .i64 0) rfl rfl rfl rfl rfl rfl (fun w' q e hx => by obtain ⟨r, rfl, h⟩ := hx; rfl) ?_
    refine Asy.sat1P Tryd.tOk 0 (fun q w' => w'.ownsRow w.heap.size 5 1 q (textD d).length (bytesV (textD d))) rfl rfl rfl rfl rfl rfl (fun q w' w'' _ e h => h.up e) (fun w' q e hx => ⟨q, rfl, hx⟩) ?_
    refine Asy.tail (by kernel_rfl) ?_
    intro we_ Xe_
    simp only [satsAll]
    rintro rt hR _ - _ - _ - _ - _ -
    replace X := X.trans (Xd_.trans Xe_)
    clear Xd_ Xe_
    repeat' (first | (with_reducible refine RunLN.chk ?_; refine RunLN.int (by (first | (refine wr_i64 ?_ ?_; omega; omega) | (refine wm_i64 ?_; omega) | (refine wq_i64 ?_ ?_ ?_; omega; omega; omega) | rfl)) ?_) | refine RunLN.any ?_ | refine RunL.ev Tryd.tOk rfl rfl rfl ?_ | refine RunE.seq ?_ | refine RunE.region ?_ | refine RunL.nil ?_)
    exact RunE.retFn Tryd.func16 (.tmp rfl .nil) ⟨hR, X⟩
theorem rtag_ok (d : Deed) (v : Value) (w : World) (hv : LBy w v (textD d)) (hf : formedD d = true) :
    Rets Tryd.prog 29 [.string ⟨#[100, 101, 101, 100]⟩, v] w fun r w' => r = .agg (digC (idD d)).toArray ∧ Ext w w' := by
  have h := rtagged_ok ⟨#[100, 101, 101, 100]⟩ v (textD d) w (by decide) hv (Nat.le_trans (text_len hf) (by decide))
  have e : digC (idD d) = bytesV (tagged deedB (textD d)) := digC_eq (idD d)
  rw [e]
  exact h
set_option maxRecDepth 4000 in
theorem rId_ok (d : Deed) (u v : Value) (w : World) (hs : LDg w u d.seen) (hb : LBy w v d.data) (hl : d.seen.length < 9223372036854775808) (hl' : d.data.length < 9223372036854775808) :
    Rets Tryd.prog 12 [.agg (dCells d u v).toArray] w fun r w' => r = .tuple #[.agg (digC (idG d)).toArray, .int .i64 (idE d)] ∧ Ext w w' := by
  have c1 := fun w h1 h2 => rformed_dd d u v w h1 h2 hl hl'
  unfold idG idE
  cases hf : formedD d with
  | false =>
    rw [hf] at c1
    refine RetsX.of (nt := 11) Tryd.func12 (by kernel_rfl) rfl rfl (by simp) (by simp only [argEnv]; rfl) ?_
    have X := ExtB.refl (fun _ => False) w
    repeat' (first | refine RunE.seq ?_ | refine RunE.region ?_)
    refine RunL.box rfl rfl rfl fun B1 w1_ a_ => ?_
    have Z1 : Blk w1_ B1 (dCells d u v) 29 := a_.at_
    have gB1 := a_.ge X
    replace X := X.trans a_.ext
    clear a_
    skip
    refine RunL.alloc Tryd.tOk rfl rfl rfl fun B2 w2_ a_ => ?_
    have Z2 : Blk w2_ B2 (digC zeroG) 23 := a_.at_
    have gB2 := a_.ge X
    have n1_2 : B1 ≠ B2 := by have := Z1.lt; have := a_.eq; omega
    have n2_1 : B2 ≠ B1 := Ne.symm n1_2
    replace Z1 := Z1.up a_.ext
    replace X := X.trans a_.ext
    clear a_
    repeat' (first | (with_reducible refine RunLN.chk ?_; refine RunLN.int (by (first | (refine wr_i64 ?_ ?_; omega; omega) | (refine wm_i64 ?_; omega) | (refine wq_i64 ?_ ?_ ?_; omega; omega; omega) | rfl)) ?_) | refine RunLN.any ?_ | refine RunL.ev Tryd.tOk rfl rfl rfl ?_ | refine RunL.evV rfl rfl rfl (OpV.loadN Tryd.tOk rfl rfl rfl rfl (Blk.row Z1)) ?_ | refine RunE.seq ?_ | refine RunE.region ?_ | refine RunL.nil ?_)
    refine RunL.call rfl rfl rfl (c1 _ (hs.up X) (hb.up X)) ?_
    rintro _ _ ⟨rfl, Xa_⟩
    replace Z2 := Z2.up Xa_
    replace X := X.trans Xa_
    clear Xa_
    clear Z1
    repeat' (first | with_reducible refine RunLN.boolT rfl ?_ | refine RunLN.any ?_ | refine RunL.ev Tryd.tOk rfl rfl rfl ?_ | refine RunE.condT rfl rfl ?_ | refine RunE.seq ?_ | refine RunE.region ?_ | refine RunL.nil ?_)
    refine RunL.storeW (vs := digC zeroG) Tryd.tOk rfl rfl rfl rfl rfl Z2 rfl rfl fun w_ t_ => ?_
    replace X := X.own t_.ext gB2
    replace Z2 : Blk w_ B2 (digC zeroG) 23 := t_.at_
    clear t_
    repeat' (first | (with_reducible refine RunLN.chk ?_; refine RunLN.int (by (first | (refine wr_i64 ?_ ?_; omega; omega) | (refine wm_i64 ?_; omega) | (refine wq_i64 ?_ ?_ ?_; omega; omega; omega) | rfl)) ?_) | refine RunL.ev Tryd.tOk rfl rfl rfl ?_ | refine RunL.nil ?_)
    exact RunE.retFn Tryd.func12 (.cell rfl (.agg Tryd.tOk rfl rfl rfl Z2.row) (.tmp rfl .nil)) ⟨rfl, X⟩
  | true =>
    rw [hf] at c1
    have c2 := fun w h1 h2 => rText_ok d u v w h1 h2 hf
    have c3 := fun r w h => rtag_ok d r w h hf
    refine RetsX.of (nt := 11) Tryd.func12 (by kernel_rfl) rfl rfl (by simp) (by simp only [argEnv]; rfl) ?_
    have X := ExtB.refl (fun _ => False) w
    repeat' (first | refine RunE.seq ?_ | refine RunE.region ?_)
    refine RunL.box rfl rfl rfl fun B1 w1_ a_ => ?_
    have Z1 : Blk w1_ B1 (dCells d u v) 29 := a_.at_
    have gB1 := a_.ge X
    replace X := X.trans a_.ext
    clear a_
    skip
    refine RunL.alloc Tryd.tOk rfl rfl rfl fun B2 w2_ a_ => ?_
    have Z2 : Blk w2_ B2 (digC zeroG) 23 := a_.at_
    have gB2 := a_.ge X
    have n1_2 : B1 ≠ B2 := by have := Z1.lt; have := a_.eq; omega
    have n2_1 : B2 ≠ B1 := Ne.symm n1_2
    replace Z1 := Z1.up a_.ext
    replace X := X.trans a_.ext
    clear a_
    repeat' (first | (with_reducible refine RunLN.chk ?_; refine RunLN.int (by (first | (refine wr_i64 ?_ ?_; omega; omega) | (refine wm_i64 ?_; omega) | (refine wq_i64 ?_ ?_ ?_; omega; omega; omega) | rfl)) ?_) | refine RunLN.any ?_ | refine RunL.ev Tryd.tOk rfl rfl rfl ?_ | refine RunL.evV rfl rfl rfl (OpV.loadN Tryd.tOk rfl rfl rfl rfl (Blk.row Z1)) ?_ | refine RunE.seq ?_ | refine RunE.region ?_ | refine RunL.nil ?_)
    refine RunL.call rfl rfl rfl (c1 _ (hs.up X) (hb.up X)) ?_
    rintro _ _ ⟨rfl, Xa_⟩
    replace Z1 := Z1.up Xa_
    replace Z2 := Z2.up Xa_
    replace X := X.trans Xa_
    clear Xa_
    repeat' (first | with_reducible refine RunLN.boolF rfl ?_ | refine RunLN.any ?_ | refine RunL.ev Tryd.tOk rfl rfl rfl ?_ | refine RunL.evV rfl rfl rfl (OpV.loadN Tryd.tOk rfl rfl rfl rfl (Blk.row Z1)) ?_ | refine RunE.condF rfl rfl ?_ | refine RunE.seq ?_ | refine RunE.region ?_ | refine RunL.nil ?_ | refine RunE.skip ?_)
    refine RunL.call rfl rfl rfl (c2 _ (hs.up X) (hb.up X)) ?_
    rintro r w5 ⟨O5, Xa_⟩
    have O6 : LBy w5 r (textD d) := isSl_own O5
    clear O5
    replace Z2 := Z2.up Xa_
    replace X := X.trans Xa_
    clear Xa_ Z1
    skip
    refine RunL.call rfl rfl rfl (c3 r _ O6) ?_
    rintro _ _ ⟨rfl, Xa_⟩
    replace Z2 := Z2.up Xa_
    replace X := X.trans Xa_
    clear Xa_
    skip
    refine RunL.storeW (vs := digC (idD d)) Tryd.tOk rfl rfl rfl rfl rfl Z2 rfl rfl fun w_ t_ => ?_
    replace X := X.own t_.ext gB2
    replace Z2 : Blk w_ B2 (digC (idD d)) 23 := t_.at_
    clear t_
    repeat' (first | (with_reducible refine RunLN.chk ?_; refine RunLN.int (by (first | (refine wr_i64 ?_ ?_; omega; omega) | (refine wm_i64 ?_; omega) | (refine wq_i64 ?_ ?_ ?_; omega; omega; omega) | rfl)) ?_) | refine RunL.ev Tryd.tOk rfl rfl rfl ?_ | refine RunL.nil ?_)
    exact RunE.retFn Tryd.func12 (.cell rfl (.agg Tryd.tOk rfl rfl rfl Z2.row) (.tmp rfl .nil)) ⟨rfl, X⟩
set_option maxRecDepth 8000 in
set_option maxHeartbeats 4000000 in
theorem rMake_ok (x person no at_ : Int) (prev : Dg) (seen : List Dg) (data : List UInt8) (u v : Value) (w : World) (hx : -9223372036854775808 ≤ x ∧ x < 9223372036854775808) (hs : LDg w u seen) (hb : LBy w v data) (hl : seen.length < 9223372036854775808) (hl' : data.length < 9223372036854775808) :
    Rets Tryd.prog 14 [.int .i64 x, .int .i64 person, .int .i64 no, .int .i64 at_, .agg (digC prev).toArray, u, v] w fun r w' => (∃ u' v', r = .tuple #[.agg (dCells (makeD x (askD person no at_ prev seen data)) u' v').toArray, .int .i64 (makeE x (askD person no at_ prev seen data))] ∧ LDg w' u' (makeD x (askD person no at_ prev seen data)).seen ∧ LBy w' v' (makeD x (askD person no at_ prev seen data)).data) ∧ Ext w w' := by
  obtain ⟨du, cu, rfl⟩ := isSl_slice hs
  obtain ⟨dv, cv, rfl⟩ := isSl_slice hb
  have hz : ∀ w', LDg w' nilV zeroD.seen := fun w' => IsSl.nil
  have hz' : ∀ w', LBy w' nilV zeroD.data := fun w' => IsSl.nil
  have c1 := fun w h1 h2 => rformed_dd (askD person no at_ prev seen data) (.slice du seen.length cu) (.slice dv data.length cv) w h1 h2 hl hl'
  cases hq : inQ x with
  | false =>
    have h0 : makeE x (askD person no at_ prev seen data) = 110 := by unfold makeE; rw [hq]; rfl
    have h1 : makeD x (askD person no at_ prev seen data) = zeroD := by unfold makeD; rw [h0]; rfl
    rw [h0, h1]
    have hq' : ¬ (1 ≤ x ∧ x < 1073741789) := of_decide_eq_false hq
    refine RetsX.of (nt := 44) Tryd.func14 (by kernel_rfl) rfl rfl (by simp) (by simp only [argEnv]; rfl) ?_
    have X := ExtB.refl (fun _ => False) w
    repeat' (first | refine RunE.seq ?_ | refine RunE.region ?_)
    refine RunL.box rfl rfl rfl fun B11 w11_ a_ => ?_
    have Z11 : Blk w11_ B11 (digC prev) 23 := a_.at_
    have gB11 := a_.ge X
    replace X := X.trans a_.ext
    clear a_
    skip
    refine RunL.alloc Tryd.tOk rfl rfl rfl fun B14 w14_ a_ => ?_
    have Z14 : Blk w14_ B14 (dCells zeroD nilV nilV) 29 := a_.at_
    have gB14 := a_.ge X
    have n11_14 : B11 ≠ B14 := by have := Z11.lt; have := a_.eq; omega
    have n14_11 : B14 ≠ B11 := Ne.symm n11_14
    replace Z11 := Z11.up a_.ext
    replace X := X.trans a_.ext
    clear a_
    by_cases h2 : x < 1
    · repeat' (first | with_reducible refine RunLN.boolT rfl ?_ | (with_reducible refine RunLN.decT ?_ ?_; focus omega) | (with_reducible refine RunLN.chk ?_; refine RunLN.int (by (first | (refine wr_i64 ?_ ?_; omega; omega) | (refine wm_i64 ?_; omega) | (refine wq_i64 ?_ ?_ ?_; omega; omega; omega) | rfl)) ?_) | refine RunLN.any ?_ | refine RunL.ev Tryd.tOk rfl rfl rfl ?_ | refine RunL.unwantedD rfl rfl ?_ | refine RunE.condT rfl rfl ?_ | refine RunE.seq ?_ | refine RunE.region ?_ | refine RunL.nil ?_)
      refine RunL.storeW (vs := dCells zeroD nilV nilV) Tryd.tOk rfl rfl rfl rfl rfl Z14 rfl rfl fun w_ t_ => ?_
      replace X := X.own t_.ext gB14
      replace Z11 := Z11.other t_.ext n11_14
      replace Z14 : Blk w_ B14 (dCells zeroD nilV nilV) 29 := t_.at_
      clear t_
      repeat' (first | (with_reducible refine RunLN.chk ?_; refine RunLN.int (by (first | (refine wr_i64 ?_ ?_; omega; omega) | (refine wm_i64 ?_; omega) | (refine wq_i64 ?_ ?_ ?_; omega; omega; omega) | rfl)) ?_) | refine RunL.ev Tryd.tOk rfl rfl rfl ?_ | refine RunL.nil ?_)
      exact RunE.retFn Tryd.func14 (.cell rfl (.agg Tryd.tOk rfl rfl rfl Z14.row) (.tmp rfl .nil)) ⟨⟨_, _, rfl, hz _, hz' _⟩, X⟩
    · repeat' (first | with_reducible refine RunLN.boolT rfl ?_ | with_reducible refine RunLN.boolF rfl ?_ | (with_reducible refine RunLN.decT ?_ ?_; focus omega) | (with_reducible refine RunLN.decF ?_ ?_; focus omega) | (with_reducible refine RunLN.chk ?_; refine RunLN.int (by (first | (refine wr_i64 ?_ ?_; omega; omega) | (refine wm_i64 ?_; omega) | (refine wq_i64 ?_ ?_ ?_; omega; omega; omega) | rfl)) ?_) | refine RunLN.any ?_ | refine RunL.ev Tryd.tOk rfl rfl rfl ?_ | refine RunE.condT rfl rfl ?_ | refine RunE.seq ?_ | refine RunE.region ?_ | refine RunL.nil ?_)
      refine RunL.storeW (vs := dCells zeroD nilV nilV) Tryd.tOk rfl rfl rfl rfl rfl Z14 rfl rfl fun w_ t_ => ?_
      replace X := X.own t_.ext gB14
      replace Z11 := Z11.other t_.ext n11_14
      replace Z14 : Blk w_ B14 (dCells zeroD nilV nilV) 29 := t_.at_
      clear t_
      repeat' (first | (with_reducible refine RunLN.chk ?_; refine RunLN.int (by (first | (refine wr_i64 ?_ ?_; omega; omega) | (refine wm_i64 ?_; omega) | (refine wq_i64 ?_ ?_ ?_; omega; omega; omega) | rfl)) ?_) | refine RunL.ev Tryd.tOk rfl rfl rfl ?_ | refine RunL.nil ?_)
      exact RunE.retFn Tryd.func14 (.cell rfl (.agg Tryd.tOk rfl rfl rfl Z14.row) (.tmp rfl .nil)) ⟨⟨_, _, rfl, hz _, hz' _⟩, X⟩
  | true =>
    have hq' : 1 ≤ x ∧ x < 1073741789 := of_decide_eq_true hq
    cases hf : formedD (askD person no at_ prev seen data) with
    | false =>
      rw [hf] at c1
      have h0 : makeE x (askD person no at_ prev seen data) = 490 := by unfold makeE; rw [hq, hf]; rfl
      have h1 : makeD x (askD person no at_ prev seen data) = zeroD := by unfold makeD; rw [h0]; rfl
      rw [h0, h1]
      refine RetsX.of (nt := 44) Tryd.func14 (by kernel_rfl) rfl rfl (by simp) (by simp only [argEnv]; rfl) ?_
      have X := ExtB.refl (fun _ => False) w
      repeat' (first | refine RunE.seq ?_ | refine RunE.region ?_)
      refine RunL.box rfl rfl rfl fun B11 w11_ a_ => ?_
      have Z11 : Blk w11_ B11 (digC prev) 23 := a_.at_
      have gB11 := a_.ge X
      replace X := X.trans a_.ext
      clear a_
      skip
      refine RunL.alloc Tryd.tOk rfl rfl rfl fun B14 w14_ a_ => ?_
      have Z14 : Blk w14_ B14 (dCells zeroD nilV nilV) 29 := a_.at_
      have gB14 := a_.ge X
      have n11_14 : B11 ≠ B14 := by have := Z11.lt; have := a_.eq; omega
      have n14_11 : B14 ≠ B11 := Ne.symm n11_14
      replace Z11 := Z11.up a_.ext
      replace X := X.trans a_.ext
      clear a_
      repeat' (first | with_reducible refine RunLN.boolF rfl ?_ | (with_reducible refine RunLN.decF ?_ ?_; focus omega) | (with_reducible refine RunLN.chk ?_; refine RunLN.int (by (first | (refine wr_i64 ?_ ?_; omega; omega) | (refine wm_i64 ?_; omega) | (refine wq_i64 ?_ ?_ ?_; omega; omega; omega) | rfl)) ?_) | refine RunLN.any ?_ | refine RunL.ev Tryd.tOk rfl rfl ((build_deed (sn := seen) (dt := data) rfl rfl rfl rfl rfl rfl)) ?_ | refine RunL.ev Tryd.tOk rfl rfl rfl ?_ | refine RunL.evV rfl rfl rfl (OpV.loadN Tryd.tOk rfl rfl rfl rfl (Blk.row Z11)) ?_ | refine RunE.condF rfl rfl ?_ | refine RunE.seq ?_ | refine RunE.region ?_ | refine RunL.nil ?_ | refine RunE.skip ?_)
      refine RunL.alloc Tryd.tOk rfl rfl rfl fun B16 wa_ aa_ => ?_
      have gB16 := aa_.ge X
      refine RunL.storeW (vs := dCells (askD person no at_ prev seen data) (.slice du seen.length cu) (.slice dv data.length cv)) Tryd.tOk rfl rfl rfl rfl rfl aa_.at_ rfl rfl fun w16_ tb_ => ?_
      have Xa_ : Ext _ w16_ := aa_.ext.write tb_.ext (by intro i_ hi_ hlt_; have := aa_.eq; omega)
      have Z16 : Blk w16_ B16 (dCells (askD person no at_ prev seen data) (.slice du seen.length cu) (.slice dv data.length cv)) 29 := tb_.at_
      have n14_16 : B14 ≠ B16 := by have := Z14.lt; have := aa_.eq; omega
      have n16_14 : B16 ≠ B14 := Ne.symm n14_16
      replace Z14 := Z14.up Xa_
      replace X := X.trans Xa_
      clear Xa_ aa_ tb_
      clear Z11
      repeat' (first | refine RunLN.any ?_ | refine RunL.evV rfl rfl rfl (OpV.loadN Tryd.tOk rfl rfl rfl rfl (Blk.row Z16)) ?_ | refine RunE.seq ?_ | refine RunE.region ?_ | refine RunL.nil ?_)
      refine RunL.call rfl rfl rfl (c1 _ (hs.up X) (hb.up X)) ?_
      rintro _ _ ⟨rfl, Xa_⟩
      replace Z14 := Z14.up Xa_
      replace X := X.trans Xa_
      clear Xa_
      clear Z16
      repeat' (first | with_reducible refine RunLN.boolT rfl ?_ | refine RunLN.any ?_ | refine RunL.ev Tryd.tOk rfl rfl rfl ?_ | refine RunE.condT rfl rfl ?_ | refine RunE.seq ?_ | refine RunE.region ?_ | refine RunL.nil ?_)
      refine RunL.storeW (vs := dCells zeroD nilV nilV) Tryd.tOk rfl rfl rfl rfl rfl Z14 rfl rfl fun w_ t_ => ?_
      replace X := X.own t_.ext gB14
      replace Z14 : Blk w_ B14 (dCells zeroD nilV nilV) 29 := t_.at_
      clear t_
      repeat' (first | (with_reducible refine RunLN.chk ?_; refine RunLN.int (by (first | (refine wr_i64 ?_ ?_; omega; omega) | (refine wm_i64 ?_; omega) | (refine wq_i64 ?_ ?_ ?_; omega; omega; omega) | rfl)) ?_) | refine RunL.ev Tryd.tOk rfl rfl rfl ?_ | refine RunL.nil ?_)
      exact RunE.retFn Tryd.func14 (.cell rfl (.agg Tryd.tOk rfl rfl rfl Z14.row) (.tmp rfl .nil)) ⟨⟨_, _, rfl, hz _, hz' _⟩, X⟩
    | true =>
      rw [hf] at c1
      have h0 : makeE x (askD person no at_ prev seen data) = 0 := by unfold makeE; rw [hq, hf]; rfl
      have h1 : makeD x (askD person no at_ prev seen data) = ⟨person, no, at_, prev, seen, data, sigE x (textD (askD person no at_ prev seen data)), sigS x (textD (askD person no at_ prev seen data))⟩ := by unfold makeD; rw [h0]; rfl
      have hr : sigR x = 0 := by unfold sigR; rw [hq]; rfl
      rw [h0, h1]
      have c2 := fun w h1 h2 => rText_ok (askD person no at_ prev seen data) (.slice du seen.length cu) (.slice dv data.length cv) w h1 h2 hf
      have c3 := fun r w h => r11_sign_ok x r (textD (askD person no at_ prev seen data)) w hx h (Nat.le_trans (text_len hf) (by decide))
      rw [hr] at c3
      clear h0 h1 hr
      generalize hE : sigE x (textD (askD person no at_ prev seen data)) = E at c3 ⊢
      generalize hS' : sigS x (textD (askD person no at_ prev seen data)) = S at c3 ⊢
      clear hE hS'
      refine RetsX.of (nt := 44) Tryd.func14 (by kernel_rfl) rfl rfl (by simp) (by simp only [argEnv]; rfl) ?_
      have X := ExtB.refl (fun _ => False) w
      repeat' (first | refine RunE.seq ?_ | refine RunE.region ?_)
      refine RunL.box rfl rfl rfl fun B11 w11_ a_ => ?_
      have Z11 : Blk w11_ B11 (digC prev) 23 := a_.at_
      have gB11 := a_.ge X
      replace X := X.trans a_.ext
      clear a_
      skip
      refine RunL.alloc Tryd.tOk rfl rfl rfl fun B14 w14_ a_ => ?_
      have Z14 : Blk w14_ B14 (dCells zeroD nilV nilV) 29 := a_.at_
      have gB14 := a_.ge X
      have n11_14 : B11 ≠ B14 := by have := Z11.lt; have := a_.eq; omega
      have n14_11 : B14 ≠ B11 := Ne.symm n11_14
      replace Z11 := Z11.up a_.ext
      replace X := X.trans a_.ext
      clear a_
      repeat' (first | with_reducible refine RunLN.boolF rfl ?_ | (with_reducible refine RunLN.decF ?_ ?_; focus omega) | (with_reducible refine RunLN.chk ?_; refine RunLN.int (by (first | (refine wr_i64 ?_ ?_; omega; omega) | (refine wm_i64 ?_; omega) | (refine wq_i64 ?_ ?_ ?_; omega; omega; omega) | rfl)) ?_) | refine RunLN.any ?_ | refine RunL.ev Tryd.tOk rfl rfl ((build_deed (sn := seen) (dt := data) rfl rfl rfl rfl rfl rfl)) ?_ | refine RunL.ev Tryd.tOk rfl rfl rfl ?_ | refine RunL.evV rfl rfl rfl (OpV.loadN Tryd.tOk rfl rfl rfl rfl (Blk.row Z11)) ?_ | refine RunE.condF rfl rfl ?_ | refine RunE.seq ?_ | refine RunE.region ?_ | refine RunL.nil ?_ | refine RunE.skip ?_)
      refine RunL.alloc Tryd.tOk rfl rfl rfl fun B16 wa_ aa_ => ?_
      have gB16 := aa_.ge X
      refine RunL.storeW (vs := dCells (askD person no at_ prev seen data) (.slice du seen.length cu) (.slice dv data.length cv)) Tryd.tOk rfl rfl rfl rfl rfl aa_.at_ rfl rfl fun w16_ tb_ => ?_
      have Xa_ : Ext _ w16_ := aa_.ext.write tb_.ext (by intro i_ hi_ hlt_; have := aa_.eq; omega)
      have Z16 : Blk w16_ B16 (dCells (askD person no at_ prev seen data) (.slice du seen.length cu) (.slice dv data.length cv)) 29 := tb_.at_
      have n14_16 : B14 ≠ B16 := by have := Z14.lt; have := aa_.eq; omega
      have n16_14 : B16 ≠ B14 := Ne.symm n14_16
      replace Z14 := Z14.up Xa_
      replace X := X.trans Xa_
      clear Xa_ aa_ tb_
      clear Z11
      repeat' (first | refine RunLN.any ?_ | refine RunL.evV rfl rfl rfl (OpV.loadN Tryd.tOk rfl rfl rfl rfl (Blk.row Z16)) ?_ | refine RunE.seq ?_ | refine RunE.region ?_ | refine RunL.nil ?_)
      refine RunL.call rfl rfl rfl (c1 _ (hs.up X) (hb.up X)) ?_
      rintro _ _ ⟨rfl, Xa_⟩
      replace Z14 := Z14.up Xa_
      replace Z16 := Z16.up Xa_
      replace X := X.trans Xa_
      clear Xa_
      repeat' (first | with_reducible refine RunLN.boolF rfl ?_ | (with_reducible refine RunLN.chk ?_; refine RunLN.int (by (first | (refine wr_i64 ?_ ?_; omega; omega) | (refine wm_i64 ?_; omega) | (refine wq_i64 ?_ ?_ ?_; omega; omega; omega) | rfl)) ?_) | refine RunLN.any ?_ | refine RunL.ev Tryd.tOk rfl rfl rfl ?_ | refine RunL.evV rfl rfl rfl (OpV.loadN Tryd.tOk rfl rfl rfl rfl (Blk.row Z16)) ?_ | refine RunE.condF rfl rfl ?_ | refine RunE.seq ?_ | refine RunE.region ?_ | refine RunL.nil ?_ | refine RunE.skip ?_)
      refine RunL.call rfl rfl rfl (c2 _ (hs.up X) (hb.up X)) ?_
      rintro r w5 ⟨O5, Xa_⟩
      have O6 : LBy w5 r (textD (askD person no at_ prev seen data)) := isSl_own O5
      clear O5
      replace Z14 := Z14.up Xa_
      replace Z16 := Z16.up Xa_
      replace X := X.trans Xa_
      clear Xa_
      skip
      refine RunL.call rfl rfl rfl (c3 r _ O6) ?_
      rintro _ _ ⟨rfl, Xa_⟩
      replace Z14 := Z14.up Xa_
      replace Z16 := Z16.up Xa_
      replace X := X.trans Xa_
      clear Xa_
      clear O6
      repeat' (first | (with_reducible refine RunLN.chk ?_; refine RunLN.int (by (first | (refine wr_i64 ?_ ?_; omega; omega) | (refine wm_i64 ?_; omega) | (refine wq_i64 ?_ ?_ ?_; omega; omega; omega) | rfl)) ?_) | refine RunLN.any ?_ | refine RunL.ev Tryd.tOk rfl rfl rfl ?_)
      refine RunL.store Tryd.tOk rfl rfl rfl rfl rfl Z16 rfl rfl fun w_ t_ => ?_
      replace X := X.own t_.ext gB16
      replace Z14 := Z14.other t_.ext n14_16
      replace Z16 : Blk w_ B16 (dCells ⟨person, no, at_, prev, seen, data, E, S⟩ (.slice du seen.length cu) (.slice dv data.length cv)) 29 := t_.at_
      clear t_
      repeat' (first | refine RunLN.any ?_ | refine RunL.evV rfl rfl rfl (OpV.loadN Tryd.tOk rfl rfl rfl rfl (Blk.row Z16)) ?_ | refine RunE.seq ?_ | refine RunE.region ?_ | refine RunL.nil ?_)
      refine RunL.storeW (vs := dCells ⟨person, no, at_, prev, seen, data, E, S⟩ (.slice du seen.length cu) (.slice dv data.length cv)) Tryd.tOk rfl rfl rfl rfl rfl Z14 rfl rfl fun w_ t_ => ?_
      replace X := X.own t_.ext gB14
      replace Z14 : Blk w_ B14 (dCells ⟨person, no, at_, prev, seen, data, E, S⟩ (.slice du seen.length cu) (.slice dv data.length cv)) 29 := t_.at_
      clear t_
      repeat' (first | (with_reducible refine RunLN.chk ?_; refine RunLN.int (by (first | (refine wr_i64 ?_ ?_; omega; omega) | (refine wm_i64 ?_; omega) | (refine wq_i64 ?_ ?_ ?_; omega; omega; omega) | rfl)) ?_) | refine RunL.ev Tryd.tOk rfl rfl rfl ?_ | refine RunL.nil ?_)
      exact RunE.retFn Tryd.func14 (.cell rfl (.agg Tryd.tOk rfl rfl rfl Z14.row) (.tmp rfl .nil)) ⟨⟨_, _, rfl, hs.up X, hb.up X⟩, X⟩
set_option maxRecDepth 4000 in
set_option maxHeartbeats 4000000 in
theorem rfewL_ok (ks : List Int) (kv : Value) (l : List Dr) (lv : Value) (w : World) (hk : LIn w kv ks) (hkl : ks.length < 9223372036854775808) (hv : LDr w lv l) (hl : l.length < 9223372036854775808) (hd : AllR w l) :
    Rets Tryd.prog 23 [kv, lv] w fun r w' => r = .bool (fewL ks (l.map Dr.d)) ∧ Ext w w' := by
  have hm : fewL ks (l.map Dr.d) = ((l.take 20).all (fun x => fewX l.length x.d) && decide (ks.length ≤ 70 ∧ (l.length ≤ 16 ∨ (4096 < l.length ∧ l.length ≤ 4200)))) := by
    unfold fewL
    rw [← List.map_take, List.all_map, List.length_map]; rfl
  refine RetsX.of (nt := 54) Tryd.func23 (by kernel_rfl) rfl rfl (by simp) (by simp only [argEnv]; rfl) ?_
  have X := ExtB.refl (fun _ => False) w
  repeat' (first | with_reducible refine RunLN.boolF rfl ?_ | (with_reducible refine RunLN.chk ?_; refine RunLN.int (by (first | (refine wr_i64 ?_ ?_; omega; omega) | (refine wm_i64 ?_; omega) | (refine wq_i64 ?_ ?_ ?_; omega; omega; omega) | rfl)) ?_) | refine RunL.ev Tryd.tOk rfl rfl rfl ?_ | refine RunE.seq ?_ | refine RunE.region ?_ | refine RunL.nil ?_ | refine RunE.block ?_)
  refine RunE.loop (ι := Nat) (fun s => [(0, kv), (1, lv), (4, .bool false), (5, .int .i64 (s : Int))])
    (fun s w' => s ≤ l.length ∧ s ≤ 20 ∧ (l.take 20).all (fun x => fewX l.length x.d) = ((l.take 20).drop s).all (fun x => fewX l.length x.d) ∧ Ext w w') (fun s => 20 - s) 0 (by repeat (first | exact Sub.nil _ | refine Sub.cons rfl ?_)) ⟨Nat.zero_le _, by decide, rfl, X⟩ ?_
  clear X
  rintro i w3 ⟨hi, hi', hall, X⟩ again
  by_cases hlt : i < l.length ∧ i < 20
  · obtain ⟨h1, h2⟩ := hlt
    obtain ⟨b1, o1, c1, rfl, hr1, -⟩ := isL_held hv h1
    obtain ⟨x, hx⟩ : ∃ x, l[i]? = some x := ⟨_, List.getElem?_eq_getElem h1⟩
    have hrx := flat_row encR hr1 hx
    have hdx := (hd x (List.mem_of_getElem? hx))
    have hdr : (l.take 20).drop i = x :: (l.take 20).drop (i + 1) := by
      have hx' : (l.take 20)[i]? = some x := by rw [List.getElem?_take_of_lt h2]; exact hx
      obtain ⟨hi, e⟩ := List.getElem?_eq_some_iff.1 hx'
      rw [← e, List.drop_eq_getElem_cons hi]
    rw [hdr, List.all_cons] at hall
    clear hdr
    have cf := fun w h h' => rfewD_ok x.d x.u x.v w h h'
    have hfx : fewX l.length x.d = (fewD x.d && !(decide (10 < x.d.seen.length) && decide (4 < l.length))) := rfl
    cases hf : fewD x.d with
    | false =>
      rw [hf] at cf hfx
      rw [hfx] at hall
      clear hfx
      repeat' (first | with_reducible refine RunLN.boolT rfl ?_ | (with_reducible refine RunLN.decT ?_ ?_; focus omega) | (with_reducible refine RunLN.chk ?_; refine RunLN.int (by (first | (refine wr_i64 ?_ ?_; omega; omega) | (refine wm_i64 ?_; omega) | (refine wq_i64 ?_ ?_ ?_; omega; omega; omega) | rfl)) ?_) | refine RunLN.any ?_ | refine RunL.ev Tryd.tOk rfl rfl rfl ?_ | refine RunL.evV rfl rfl rfl (OpV.indexS Tryd.tOk i rfl rfl rfl (by first | rfl | omega) (by omega)) ?_ | refine RunL.evV rfl rfl rfl (OpV.loadN Tryd.tOk rfl rfl rfl rfl (hrx.up X)) ?_ | refine RunE.condT rfl rfl ?_ | refine RunE.seq ?_ | refine RunE.region ?_ | refine RunL.nil ?_ | refine RunE.block ?_ | refine RunE.skip ?_)
      refine RunL.call rfl rfl rfl (cf _ (hdx.seen.up X) (hdx.data.up X)) ?_
      rintro _ _ ⟨rfl, Xa_⟩
      replace X := X.trans Xa_
      clear Xa_
      repeat' (first | with_reducible refine RunLN.boolT rfl ?_ | with_reducible refine RunLN.boolF rfl ?_ | refine RunL.ev Tryd.tOk rfl rfl rfl ?_ | refine RunL.unwantedD rfl rfl ?_ | refine RunE.condT rfl rfl ?_ | refine RunE.seq ?_ | refine RunE.region ?_ | refine RunL.nil ?_)
      exact RunE.retFn Tryd.func23 (.tmp rfl .nil) ⟨by rw [hm, hall]; rfl, X⟩
    | true =>
      rw [hf] at cf hfx
      by_cases h3 : 10 < x.d.seen.length
      · by_cases h4 : 4 < l.length
        · rw [decide_eq_true h3, decide_eq_true h4] at hfx
          rw [hfx] at hall
          clear hfx
          repeat' (first | with_reducible refine RunLN.boolT rfl ?_ | (with_reducible refine RunLN.decT ?_ ?_; focus omega) | (with_reducible refine RunLN.chk ?_; refine RunLN.int (by (first | (refine wr_i64 ?_ ?_; omega; omega) | (refine wm_i64 ?_; omega) | (refine wq_i64 ?_ ?_ ?_; omega; omega; omega) | rfl)) ?_) | refine RunLN.any ?_ | refine RunL.ev Tryd.tOk rfl rfl rfl ?_ | refine RunL.evV rfl rfl rfl (OpV.indexS Tryd.tOk i rfl rfl rfl (by first | rfl | omega) (by omega)) ?_ | refine RunL.evV rfl rfl rfl (OpV.loadN Tryd.tOk rfl rfl rfl rfl (hrx.up X)) ?_ | refine RunE.condT rfl rfl ?_ | refine RunE.seq ?_ | refine RunE.region ?_ | refine RunL.nil ?_ | refine RunE.block ?_ | refine RunE.skip ?_)
          refine RunL.call rfl rfl rfl (cf _ (hdx.seen.up X) (hdx.data.up X)) ?_
          rintro _ _ ⟨rfl, Xa_⟩
          replace X := X.trans Xa_
          clear Xa_
          repeat' (first | with_reducible refine RunLN.boolT rfl ?_ | with_reducible refine RunLN.boolF rfl ?_ | (with_reducible refine RunLN.decT ?_ ?_; focus omega) | (with_reducible refine RunLN.chk ?_; refine RunLN.int (by (first | (refine wr_i64 ?_ ?_; omega; omega) | (refine wm_i64 ?_; omega) | (refine wq_i64 ?_ ?_ ?_; omega; omega; omega) | rfl)) ?_) | refine RunLN.any ?_ | refine RunL.ev Tryd.tOk rfl rfl rfl ?_ | refine RunL.evV rfl rfl rfl (OpV.indexS Tryd.tOk i rfl rfl rfl (by first | rfl | omega) (by omega)) ?_ | refine RunL.evV rfl rfl rfl (OpV.load1 Tryd.tOk rfl rfl rfl ((hrx.up X) _ _ rfl)) ?_ | refine RunE.condT rfl rfl ?_ | refine RunE.seq ?_ | refine RunE.region ?_ | refine RunL.nil ?_)
          exact RunE.retFn Tryd.func23 (.tmp rfl .nil) ⟨by rw [hm, hall]; rfl, X⟩
        · rw [decide_eq_true h3, decide_eq_false h4] at hfx
          rw [hfx] at hall
          clear hfx
          repeat' (first | with_reducible refine RunLN.boolT rfl ?_ | (with_reducible refine RunLN.decT ?_ ?_; focus omega) | (with_reducible refine RunLN.chk ?_; refine RunLN.int (by (first | (refine wr_i64 ?_ ?_; omega; omega) | (refine wm_i64 ?_; omega) | (refine wq_i64 ?_ ?_ ?_; omega; omega; omega) | rfl)) ?_) | refine RunLN.any ?_ | refine RunL.ev Tryd.tOk rfl rfl rfl ?_ | refine RunL.evV rfl rfl rfl (OpV.indexS Tryd.tOk i rfl rfl rfl (by first | rfl | omega) (by omega)) ?_ | refine RunL.evV rfl rfl rfl (OpV.loadN Tryd.tOk rfl rfl rfl rfl (hrx.up X)) ?_ | refine RunE.condT rfl rfl ?_ | refine RunE.seq ?_ | refine RunE.region ?_ | refine RunL.nil ?_ | refine RunE.block ?_ | refine RunE.skip ?_)
          refine RunL.call rfl rfl rfl (cf _ (hdx.seen.up X) (hdx.data.up X)) ?_
          rintro _ _ ⟨rfl, Xa_⟩
          replace X := X.trans Xa_
          clear Xa_
          repeat' (first | with_reducible refine RunLN.boolT rfl ?_ | with_reducible refine RunLN.boolF rfl ?_ | (with_reducible refine RunLN.decT ?_ ?_; focus omega) | (with_reducible refine RunLN.decF ?_ ?_; focus omega) | (with_reducible refine RunLN.chk ?_; refine RunLN.int (by (first | (refine wr_i64 ?_ ?_; omega; omega) | (refine wm_i64 ?_; omega) | (refine wq_i64 ?_ ?_ ?_; omega; omega; omega) | rfl)) ?_) | refine RunLN.any ?_ | refine RunL.ev Tryd.tOk rfl rfl rfl ?_ | refine RunL.evV rfl rfl rfl (OpV.indexS Tryd.tOk i rfl rfl rfl (by first | rfl | omega) (by omega)) ?_ | refine RunL.evV rfl rfl rfl (OpV.load1 Tryd.tOk rfl rfl rfl ((hrx.up X) _ _ rfl)) ?_ | refine RunE.condF rfl rfl ?_ | refine RunE.region ?_ | refine RunL.nil ?_ | refine RunE.inBlock ?_ | refine RunE.skip ?_)
          exact RunE.weaken (by repeat (first | exact Sub.nil _ | refine Sub.cons rfl ?_)) (again (i + 1) _ (by omega) ⟨by omega, by omega, by rw [hall]; rfl, X⟩)
      · rw [decide_eq_false h3] at hfx
        rw [hfx] at hall
        clear hfx
        repeat' (first | with_reducible refine RunLN.boolT rfl ?_ | (with_reducible refine RunLN.decT ?_ ?_; focus omega) | (with_reducible refine RunLN.chk ?_; refine RunLN.int (by (first | (refine wr_i64 ?_ ?_; omega; omega) | (refine wm_i64 ?_; omega) | (refine wq_i64 ?_ ?_ ?_; omega; omega; omega) | rfl)) ?_) | refine RunLN.any ?_ | refine RunL.ev Tryd.tOk rfl rfl rfl ?_ | refine RunL.evV rfl rfl rfl (OpV.indexS Tryd.tOk i rfl rfl rfl (by first | rfl | omega) (by omega)) ?_ | refine RunL.evV rfl rfl rfl (OpV.loadN Tryd.tOk rfl rfl rfl rfl (hrx.up X)) ?_ | refine RunE.condT rfl rfl ?_ | refine RunE.seq ?_ | refine RunE.region ?_ | refine RunL.nil ?_ | refine RunE.block ?_ | refine RunE.skip ?_)
        refine RunL.call rfl rfl rfl (cf _ (hdx.seen.up X) (hdx.data.up X)) ?_
        rintro _ _ ⟨rfl, Xa_⟩
        replace X := X.trans Xa_
        clear Xa_
        repeat' (first | with_reducible refine RunLN.boolF rfl ?_ | (with_reducible refine RunLN.decF ?_ ?_; focus omega) | (with_reducible refine RunLN.chk ?_; refine RunLN.int (by (first | (refine wr_i64 ?_ ?_; omega; omega) | (refine wm_i64 ?_; omega) | (refine wq_i64 ?_ ?_ ?_; omega; omega; omega) | rfl)) ?_) | refine RunLN.any ?_ | refine RunL.ev Tryd.tOk rfl rfl rfl ?_ | refine RunL.unwantedD rfl rfl ?_ | refine RunL.evV rfl rfl rfl (OpV.indexS Tryd.tOk i rfl rfl rfl (by first | rfl | omega) (by omega)) ?_ | refine RunL.evV rfl rfl rfl (OpV.load1 Tryd.tOk rfl rfl rfl ((hrx.up X) _ _ rfl)) ?_ | refine RunE.condF rfl rfl ?_ | refine RunE.region ?_ | refine RunL.nil ?_ | refine RunE.inBlock ?_ | refine RunE.skip ?_)
        exact RunE.weaken (by repeat (first | exact Sub.nil _ | refine Sub.cons rfl ?_)) (again (i + 1) _ (by omega) ⟨by omega, by omega, by rw [hall]; rfl, X⟩)
  · have hnil : (l.take 20).drop i = [] := by
      rw [List.drop_eq_nil_iff, List.length_take]; omega
    rw [hnil, List.all_nil] at hall
    rw [hall, Bool.true_and] at hm
    clear again hall hnil
    have hg : i < l.length → 20 ≤ i := fun h => by
      rcases Nat.lt_or_ge i 20 with h' | h'
      · exact absurd ⟨h, h'⟩ hlt
      · exact h'
    by_cases q1 : ks.length ≤ 70
    · by_cases q2 : l.length ≤ 16
      · have hr : fewL ks (l.map Dr.d) = true := by rw [hm, decide_eq_true]; exact ⟨q1, .inl q2⟩
        by_cases q0 : i < l.length
        · have := hg q0
          omega
        · repeat' (first | with_reducible refine RunLN.boolT rfl ?_ | with_reducible refine RunLN.boolF rfl ?_ | (with_reducible refine RunLN.decT ?_ ?_; focus omega) | (with_reducible refine RunLN.decF ?_ ?_; focus omega) | (with_reducible refine RunLN.chk ?_; refine RunLN.int (by (first | (refine wr_i64 ?_ ?_; omega; omega) | (refine wm_i64 ?_; omega) | (refine wq_i64 ?_ ?_ ?_; omega; omega; omega) | rfl)) ?_) | refine RunLN.any ?_ | refine RunL.ev Tryd.tOk rfl rfl rfl ?_ | refine RunL.unwantedD rfl rfl ?_ | refine RunL.evV rfl rfl rfl (OpV.lenSl Tryd.tOk rfl rfl hv) ?_ | refine RunL.evV rfl rfl rfl (OpV.lenSl Tryd.tOk rfl rfl hk) ?_ | refine RunE.condF rfl rfl ?_ | refine RunE.seq ?_ | refine RunE.region ?_ | refine RunL.nil ?_ | refine RunE.exit rfl ?_)
          exact RunE.retFn Tryd.func23 (.tmp rfl .nil) ⟨by rw [hr]; rfl, X⟩
      · by_cases q3 : 4096 < l.length
        · have hr : fewL ks (l.map Dr.d) = decide ((l.length : Int) ≤ 4200) := by
            rw [hm, Bool.eq_iff_iff, decide_eq_true_eq, decide_eq_true_eq]; omega
          by_cases q0 : i < l.length
          · have := hg q0
            repeat' (first | with_reducible refine RunLN.boolT rfl ?_ | with_reducible refine RunLN.boolF rfl ?_ | (with_reducible refine RunLN.decT ?_ ?_; focus omega) | (with_reducible refine RunLN.decF ?_ ?_; focus omega) | (with_reducible refine RunLN.chk ?_; refine RunLN.int (by (first | (refine wr_i64 ?_ ?_; omega; omega) | (refine wm_i64 ?_; omega) | (refine wq_i64 ?_ ?_ ?_; omega; omega; omega) | rfl)) ?_) | refine RunLN.any ?_ | refine RunL.ev Tryd.tOk rfl rfl rfl ?_ | refine RunL.evV rfl rfl rfl (OpV.lenSl Tryd.tOk rfl rfl hv) ?_ | refine RunL.evV rfl rfl rfl (OpV.lenSl Tryd.tOk rfl rfl hk) ?_ | refine RunE.condF rfl rfl ?_ | refine RunE.seq ?_ | refine RunE.region ?_ | refine RunL.nil ?_ | refine RunE.exit rfl ?_)
            exact RunE.retFn Tryd.func23 (.tmp rfl .nil) ⟨by rw [hr]; rfl, X⟩
          · omega
        · have hr : fewL ks (l.map Dr.d) = false := by rw [hm, decide_eq_false]; omega
          by_cases q0 : i < l.length
          · have := hg q0
            repeat' (first | with_reducible refine RunLN.boolT rfl ?_ | with_reducible refine RunLN.boolF rfl ?_ | (with_reducible refine RunLN.decT ?_ ?_; focus omega) | (with_reducible refine RunLN.decF ?_ ?_; focus omega) | (with_reducible refine RunLN.chk ?_; refine RunLN.int (by (first | (refine wr_i64 ?_ ?_; omega; omega) | (refine wm_i64 ?_; omega) | (refine wq_i64 ?_ ?_ ?_; omega; omega; omega) | rfl)) ?_) | refine RunLN.any ?_ | refine RunL.ev Tryd.tOk rfl rfl rfl ?_ | refine RunL.unwantedD rfl rfl ?_ | refine RunL.evV rfl rfl rfl (OpV.lenSl Tryd.tOk rfl rfl hv) ?_ | refine RunL.evV rfl rfl rfl (OpV.lenSl Tryd.tOk rfl rfl hk) ?_ | refine RunE.condF rfl rfl ?_ | refine RunE.seq ?_ | refine RunE.region ?_ | refine RunL.nil ?_ | refine RunE.exit rfl ?_)
            exact RunE.retFn Tryd.func23 (.tmp rfl .nil) ⟨by rw [hr]; rfl, X⟩
          · repeat' (first | with_reducible refine RunLN.boolT rfl ?_ | with_reducible refine RunLN.boolF rfl ?_ | (with_reducible refine RunLN.decT ?_ ?_; focus omega) | (with_reducible refine RunLN.decF ?_ ?_; focus omega) | (with_reducible refine RunLN.chk ?_; refine RunLN.int (by (first | (refine wr_i64 ?_ ?_; omega; omega) | (refine wm_i64 ?_; omega) | (refine wq_i64 ?_ ?_ ?_; omega; omega; omega) | rfl)) ?_) | refine RunLN.any ?_ | refine RunL.ev Tryd.tOk rfl rfl rfl ?_ | refine RunL.unwantedD rfl rfl ?_ | refine RunL.evV rfl rfl rfl (OpV.lenSl Tryd.tOk rfl rfl hv) ?_ | refine RunL.evV rfl rfl rfl (OpV.lenSl Tryd.tOk rfl rfl hk) ?_ | refine RunE.condF rfl rfl ?_ | refine RunE.seq ?_ | refine RunE.region ?_ | refine RunL.nil ?_ | refine RunE.exit rfl ?_)
            exact RunE.retFn Tryd.func23 (.tmp rfl .nil) ⟨by rw [hr]; rfl, X⟩
    · have hr : fewL ks (l.map Dr.d) = false := by rw [hm, decide_eq_false]; omega
      by_cases q0 : i < l.length
      · have := hg q0
        repeat' (first | with_reducible refine RunLN.boolT rfl ?_ | with_reducible refine RunLN.boolF rfl ?_ | (with_reducible refine RunLN.decT ?_ ?_; focus omega) | (with_reducible refine RunLN.decF ?_ ?_; focus omega) | (with_reducible refine RunLN.chk ?_; refine RunLN.int (by (first | (refine wr_i64 ?_ ?_; omega; omega) | (refine wm_i64 ?_; omega) | (refine wq_i64 ?_ ?_ ?_; omega; omega; omega) | rfl)) ?_) | refine RunLN.any ?_ | refine RunL.ev Tryd.tOk rfl rfl rfl ?_ | refine RunL.unwantedD rfl rfl ?_ | refine RunL.evV rfl rfl rfl (OpV.lenSl Tryd.tOk rfl rfl hv) ?_ | refine RunL.evV rfl rfl rfl (OpV.lenSl Tryd.tOk rfl rfl hk) ?_ | refine RunE.condF rfl rfl ?_ | refine RunE.seq ?_ | refine RunE.region ?_ | refine RunL.nil ?_ | refine RunE.exit rfl ?_)
        exact RunE.retFn Tryd.func23 (.tmp rfl .nil) ⟨by rw [hr]; rfl, X⟩
      · repeat' (first | with_reducible refine RunLN.boolF rfl ?_ | (with_reducible refine RunLN.decF ?_ ?_; focus omega) | (with_reducible refine RunLN.chk ?_; refine RunLN.int (by (first | (refine wr_i64 ?_ ?_; omega; omega) | (refine wm_i64 ?_; omega) | (refine wq_i64 ?_ ?_ ?_; omega; omega; omega) | rfl)) ?_) | refine RunLN.any ?_ | refine RunL.ev Tryd.tOk rfl rfl rfl ?_ | refine RunL.unwantedD rfl rfl ?_ | refine RunL.evV rfl rfl rfl (OpV.lenSl Tryd.tOk rfl rfl hv) ?_ | refine RunL.evV rfl rfl rfl (OpV.lenSl Tryd.tOk rfl rfl hk) ?_ | refine RunE.condF rfl rfl ?_ | refine RunE.seq ?_ | refine RunE.region ?_ | refine RunL.nil ?_ | refine RunE.exit rfl ?_)
        exact RunE.retFn Tryd.func23 (.tmp rfl .nil) ⟨by rw [hr]; rfl, X⟩
end Go.Sg
end
section
/- []byte("..") of a constant. -/
namespace Go.Rn
variable {P : Program} {w : World} {env : Env} {dst : Option Tmp} {ty : TypeId} {pos : String} {after : Array Edge} {guard : Option (Nat × Bool)}
theorem row_cells {b : Nat} {cs : List Value} {t : TypeId} {fz : Nat × Nat} (h : w.heap[b]? = some (.cells cs.toArray t fz)) : Row w b 0 cs := fun i v hv => by
  simp [World.cell?, h, hv]
theorem OpE.bytesC {T : Tab} (hT : T.Ok P) {t e : TypeId} {ag : Bool} {s bb s2 bb2 : Nat} {z z2 : List Value} {a u a2 u2 : Bool} {x : Operand} {B n c : Nat} {cs : List Value} {bt : TypeId}
    (ht : T.get t = some ⟨.slc 1 ag e, s, bb, z, a, u⟩) (he : T.get e = some ⟨.int .u8, s2, bb2, z2, a2, u2⟩) (hx : evO env x = some (.slice (some ⟨B, 0, none⟩) n c)) (hb : Blk w B cs bt) :
    OpE P env w ⟨dst, .convert t t x, ty, pos, after, guard⟩ (fun v w' => v = .slice (some ⟨B, 0, none⟩) n c ∧ Turned w w' B (.cells cs.toArray bt (cs.length, cs.length + 1))) fun _ _ => False := by
  obtain ⟨hu, -⟩ := TD.of_slc (TI.tdof (hT.get _ _ ht)).symm
  have hue := TD.of_int (TI.tdof (hT.get _ _ he)).symm
  refine .of_run (w' := World.setObj w B (.cells cs.toArray bt (cs.length, cs.length + 1))) (v := .slice (some ⟨B, 0, none⟩) n c) ⟨rfl, turned_set w hb.lt _⟩ fun ρ hρ => ⟨_, by simp only [execOp, hρ _ _ hx] <;> rfl, ?_⟩
  have hsh : w.shape? B = some (bt, cs.length) := by
    unfold World.shape?
    rw [show w.heap[B]? = some (.cells cs.toArray bt (0, 0)) from hb]; simp
  have hfr : w.freeze ⟨B, cs.length, none⟩ 1 = World.setObj w B (.cells cs.toArray bt (cs.length, cs.length + 1)) := by
    unfold World.freeze World.setObj
    rw [if_neg (by decide)]
    have hm : ∀ (f : Obj → Obj) (y : Obj), f (.cells cs.toArray bt (0, 0)) = y → w.heap.modify B f = w.heap.setIfInBounds B y := by
      intro f y hy
      have hB := hb.lt
      have hg : w.heap[B] = .cells cs.toArray bt (0, 0) := by
        have : w.heap[B]? = some _ := hb
        rw [Array.getElem?_eq_getElem hB] at this; injection this
      apply Array.ext
      · simp
      · intro i h1 h2
        simp only [Array.getElem_modify, Array.getElem_setIfInBounds]
        by_cases h : B = i
        · subst h; simp [hg, hy]
        · simp only [h, if_false]
          rw [Array.getElem_setIfInBounds_ne _ h]
    rw [hm _ _ (by rfl)]
    rfl
  simp [convert, run_underlying hu, run_underlying hue, markStringish, hsh]
  exact hfr
end Go.Rn
end
section
/- Deeds: sane. -/
namespace Go.Sg
open Go.Rn Go.Proofs Go.Dee Go.Rec Go.RowKit Go.Sha Go.Cod Go.NT
attribute [local irreducible] Go.Rn.RetsX Go.Rn.RunLN Go.Rn.AsyN Go.Rn.RunL Go.Rn.RunE Go.Rn.Asy Go.Rn.OpV Go.Rn.OpE Go.Rn.ExecE
theorem dMake_at {x p n t : Int} {prev : Dg} {seen : List Dg} {data : List UInt8} {d : Deed} {e : Int} (hd : makeD x (askD p n t prev seen data) = d) (he : makeE x (askD p n t prev seen data) = e) (u v : Value) (w : World) (hx : -9223372036854775808 ≤ x ∧ x < 9223372036854775808) (hs : LDg w u seen) (hb : LBy w v data) (hl : seen.length < 9223372036854775808) (hl' : data.length < 9223372036854775808) (hS : Row w 0 0 (vals init8.l)) (hkT : Row w 1 0 (vals kTab)) :
    Rets Tryd.prog 13 [.int .i64 x, .int .i64 p, .int .i64 n, .int .i64 t, .agg (digC prev).toArray, u, v] w fun r w' => (∃ ua uc va vc, r = .tuple #[.agg (dCells d (.slice ua d.seen.length uc) (.slice va d.data.length vc)).toArray, .int .i64 e] ∧ LDg w' (.slice ua d.seen.length uc) d.seen ∧ LBy w' (.slice va d.data.length vc) d.data) ∧ Ext w w' := by
  have := dMake_ok x p n t prev seen data u v w hx hs hb hl hl' hS hkT
  rw [hd, he] at this
  exact this.mono fun _ _ ⟨⟨u', v', h1, h2, h3⟩, h4⟩ => by
    obtain ⟨ua, uc, rfl⟩ := isSl_slice h2
    obtain ⟨va, vc, rfl⟩ := isSl_slice h3
    exact ⟨⟨ua, uc, va, vc, h1, h2, h3⟩, h4⟩
theorem pow4_at {n k : Int} (h : powC 4 n = k) (w : World) : Rets Tryd.prog 20 [.int .i64 4, .int .i64 n] w fun v w' => v = .tuple #[.int .i64 k, .int .i64 0] ∧ Ext w w' := by
  have := pow_ok 4 n w
  rw [h, v4] at this
  exact this
attribute [local irreducible] powC makeE makeD idD fineD stepD chkE
set_option maxRecDepth 8000 in
set_option maxHeartbeats 16000000 in
theorem l49_sane_gen (a b c : Deed) (g : Dg) (k5 k6 : Int) (E : Ex [k5, 0, k6] a b c g) (p5 : powC 4 5 = k5) (p6 : powC 4 6 = k6) (ma : makeD 5 (askD 0 0 10 zeroG [] [120]) = a) (ea : makeE 5 (askD 0 0 10 zeroG [] [120]) = 0) (mb : makeD 6 (askD 2 0 10 zeroG [g] []) = b) (eb : makeE 6 (askD 2 0 10 zeroG [g] []) = 0) (mc : makeD 5 (askD 0 1 12 g [] []) = c) (ec : makeE 5 (askD 0 1 12 g [] []) = 0)
    (md : makeD 0 (askD 0 0 0 zeroG [] []) = zeroD) (ed : makeE 0 (askD 0 0 0 zeroG [] []) = 110) (me : makeD 5 (askD 0 0 0 oneG [] []) = zeroD) (ee : makeE 5 (askD 0 0 0 oneG [] []) = 490)
    (w : World) (hS : Row w 0 0 (vals init8.l)) (hkT : Row w 1 0 (vals kTab)) : Rets Tryd.prog 9 [] w fun r w' => r = .bool true ∧ Ext w w' := by
  obtain ⟨sa1, sa2⟩ := E.sa
  obtain ⟨sb1, sb2⟩ := E.sb
  obtain ⟨sc1, sc2⟩ := E.sc
  have cA := fun v w h1 h2 h3 => dMake_at ma ea nilV v w (by decide) IsSl.nil h1 (by simp) (by simp) h2 h3
  have cB := fun u w h1 h2 h3 => dMake_at mb eb u nilV w (by decide) h1 IsSl.nil (by simp) (by simp) h2 h3
  have cC := fun w h2 h3 => dMake_at mc ec nilV nilV w (by decide) IsSl.nil IsSl.nil (by simp) (by simp) h2 h3
  have cD := fun w h2 h3 => dMake_at md ed nilV nilV w (by decide) IsSl.nil IsSl.nil (by simp) (by simp) h2 h3
  have cE := fun w h2 h3 => dMake_at me ee nilV nilV w (by decide) IsSl.nil IsSl.nil (by simp) (by simp) h2 h3
  have cI := fun u v w h1 h2 h3 h4 => dId_ok a u v w h1 h2 (by omega) (by omega) h3 h4
  have cJ := fun w h3 h4 => dId_ok ⟨0, -1, 0, zeroG, [], [], 0, 0⟩ nilV nilV w IsSl.nil IsSl.nil (by simp) (by simp) h3 h4
  rw [E.id, E.ide] at cI
  clear ma ea mb eb mc ec md ed me ee
  refine RetsX.of (nt := 201) Tryd.func9 (by kernel_rfl) rfl rfl (by simp) (by simp only [argEnv]; rfl) ?_
  have X := ExtB.refl (fun _ => False) w
  repeat' (first | with_reducible refine RunLN.boolF rfl ?_ | refine RunL.ev Tryd.tOk rfl rfl rfl ?_ | refine RunE.seq ?_ | refine RunE.region ?_ | refine RunL.nil ?_)
  refine RunL.call rfl rfl rfl (pow4_at p5 _) ?_
  rintro _ _ ⟨rfl, Xa_⟩
  replace X := X.trans Xa_
  clear Xa_
  repeat' (first | (with_reducible refine RunLN.chk ?_; refine RunLN.int (by (first | (refine wr_i64 ?_ ?_; omega; omega) | (refine wm_i64 ?_; omega) | (refine wq_i64 ?_ ?_ ?_; omega; omega; omega) | rfl)) ?_) | refine RunLN.any ?_ | refine RunL.ev Tryd.tOk rfl rfl rfl ?_ | refine RunE.seq ?_ | refine RunE.region ?_ | refine RunL.nil ?_)
  refine RunL.call rfl rfl rfl (pow4_at p6 _) ?_
  rintro _ _ ⟨rfl, Xa_⟩
  replace X := X.trans Xa_
  clear Xa_
  clear p5 p6
  repeat' (first | (with_reducible refine RunLN.chk ?_; refine RunLN.int (by (first | (refine wr_i64 ?_ ?_; omega; omega) | (refine wm_i64 ?_; omega) | (refine wq_i64 ?_ ?_ ?_; omega; omega; omega) | rfl)) ?_) | refine RunLN.any ?_ | refine RunL.ev Tryd.tOk rfl rfl rfl ?_ | refine RunE.seq ?_ | refine RunE.region ?_ | refine RunL.nil ?_)
  refine RunL.ex rfl rfl rfl (OpE.buildSl Tryd.tOk [.int .i64 k5, .int .i64 0, .int .i64 k6] rfl rfl rfl rfl rfl rfl (by simp [Value.cells])) ?_
  rintro _ w_ ⟨B_, rfl, a_⟩
  have hk : LIn w_ (.slice (some ⟨B_, 0, none⟩) 3 3) [k5, 0, k6] := (isSl_added (n := 3) (sz := 1) a_ rfl)
  replace X := X.trans a_.ext
  clear a_
  repeat' (first | refine RunLN.any ?_ | refine RunL.ev Tryd.tOk rfl rfl rfl ?_ | refine RunE.seq ?_ | refine RunE.region ?_ | refine RunL.nil ?_)
  refine RunL.ex rfl rfl rfl (OpE.buildSl Tryd.tOk (bytesV [120]) rfl rfl rfl rfl rfl rfl (by simp [Value.cells, bytesV])) ?_
  rintro _ wa_ ⟨Bc_, rfl, aa_⟩
  have Zc_ : Blk wa_ Bc_ (bytesV [120]) 5 := aa_.at_
  have ec_ := aa_.eq
  refine RunL.ex rfl rfl rfl (OpE.bytesC Tryd.tOk rfl rfl rfl Zc_) ?_
  rintro _ wb_ ⟨rfl, tb_⟩
  have Xa_ : Ext _ wb_ := aa_.ext.write tb_.ext (by intro i_ hi_ hlt_; subst hi_; omega)
  have h120 : IsSl wb_ 1 (.slice (some ⟨Bc_, 0, none⟩) 1 1) ([120] : List UInt8).length (bytesV [120]) := .row (row_cells tb_.at_) rfl (Nat.le_refl _)
  replace hk := hk.up Xa_
  replace X := X.trans Xa_
  clear Xa_ aa_ tb_ Zc_ ec_
  skip
  refine RunL.call rfl rfl rfl (cA _ _ h120 (hS.up X) (hkT.up X)) ?_
  rintro _ _ ⟨⟨ua, uc, va, vc, rfl, hua, hva⟩, Xa_⟩
  replace hk := hk.up Xa_
  replace X := X.trans Xa_
  clear Xa_
  repeat' (first | (with_reducible refine RunLN.chk ?_; refine RunLN.int (by (first | (refine wr_i64 ?_ ?_; omega; omega) | (refine wm_i64 ?_; omega) | (refine wq_i64 ?_ ?_ ?_; omega; omega; omega) | rfl)) ?_) | refine RunLN.any ?_ | refine RunL.ev Tryd.tOk rfl rfl rfl ?_)
  refine RunL.alloc Tryd.tOk rfl rfl rfl fun B6 wa_ aa_ => ?_
  have gB6 := aa_.ge X
  refine RunL.storeW (vs := dCells a (.slice ua a.seen.length uc) (.slice va a.data.length vc)) Tryd.tOk rfl rfl rfl rfl rfl aa_.at_ rfl rfl fun w6_ tb_ => ?_
  have Xa_ : Ext _ w6_ := aa_.ext.write tb_.ext (by intro i_ hi_ hlt_; have := aa_.eq; omega)
  have Z6 : Blk w6_ B6 (dCells a (.slice ua a.seen.length uc) (.slice va a.data.length vc)) 29 := tb_.at_
  replace hk := hk.up Xa_
  replace hua := hua.up Xa_
  replace hva := hva.up Xa_
  replace X := X.trans Xa_
  clear Xa_ aa_ tb_
  repeat' (first | (with_reducible refine RunLN.chk ?_; refine RunLN.int (by (first | (refine wr_i64 ?_ ?_; omega; omega) | (refine wm_i64 ?_; omega) | (refine wq_i64 ?_ ?_ ?_; omega; omega; omega) | rfl)) ?_) | refine RunLN.any ?_ | refine RunL.ev Tryd.tOk rfl rfl rfl ?_ | refine RunL.evV rfl rfl rfl (OpV.loadN Tryd.tOk rfl rfl rfl rfl (Blk.row Z6)) ?_ | refine RunE.seq ?_ | refine RunE.region ?_ | refine RunL.nil ?_)
  refine RunL.call rfl rfl rfl (cI _ _ _ hua hva (hS.up X) (hkT.up X)) ?_
  rintro _ _ ⟨rfl, Xa_⟩
  replace hk := hk.up Xa_
  replace hua := hua.up Xa_
  replace hva := hva.up Xa_
  replace Z6 := Z6.up Xa_
  replace X := X.trans Xa_
  clear Xa_
  repeat' (first | (with_reducible refine RunLN.chk ?_; refine RunLN.int (by (first | (refine wr_i64 ?_ ?_; omega; omega) | (refine wm_i64 ?_; omega) | (refine wq_i64 ?_ ?_ ?_; omega; omega; omega) | rfl)) ?_) | refine RunLN.any ?_ | refine RunL.ev Tryd.tOk rfl rfl rfl ?_)
  refine RunL.alloc Tryd.tOk rfl rfl rfl fun B8 wa_ aa_ => ?_
  have gB8 := aa_.ge X
  refine RunL.storeW (vs := digC g) Tryd.tOk rfl rfl rfl rfl rfl aa_.at_ rfl rfl fun w8_ tb_ => ?_
  have Xa_ : Ext _ w8_ := aa_.ext.write tb_.ext (by intro i_ hi_ hlt_; have := aa_.eq; omega)
  have Z8 : Blk w8_ B8 (digC g) 23 := tb_.at_
  have n6_8 : B6 ≠ B8 := by have := Z6.lt; have := aa_.eq; omega
  have n8_6 : B8 ≠ B6 := Ne.symm n6_8
  replace hk := hk.up Xa_
  replace hua := hua.up Xa_
  replace hva := hva.up Xa_
  replace Z6 := Z6.up Xa_
  replace X := X.trans Xa_
  clear Xa_ aa_ tb_
  repeat' (first | (with_reducible refine RunLN.chk ?_; refine RunLN.int (by (first | (refine wr_i64 ?_ ?_; omega; omega) | (refine wm_i64 ?_; omega) | (refine wq_i64 ?_ ?_ ?_; omega; omega; omega) | rfl)) ?_) | refine RunLN.any ?_ | refine RunL.ev Tryd.tOk rfl rfl rfl ?_ | refine RunL.evV rfl rfl rfl (OpV.loadN Tryd.tOk rfl rfl rfl rfl (Blk.row Z8)) ?_ | refine RunE.seq ?_ | refine RunE.region ?_ | refine RunL.nil ?_)
  refine RunL.ex rfl rfl rfl (OpE.buildL encG Tryd.tOk [g] rfl rfl rfl rfl rfl rfl) ?_
  rintro _ w9 ⟨⟨B9, rfl⟩, hg9, Xa_⟩
  replace hk := hk.up Xa_
  replace hua := hua.up Xa_
  replace hva := hva.up Xa_
  replace Z6 := Z6.up Xa_
  replace Z8 := Z8.up Xa_
  replace X := X.trans Xa_
  clear Xa_
  skip
  refine RunL.call rfl rfl rfl (cB _ _ hg9 (hS.up X) (hkT.up X)) ?_
  rintro _ _ ⟨⟨ub, ucb, vb, vcb, rfl, hub, hvb⟩, Xa_⟩
  replace hk := hk.up Xa_
  replace hua := hua.up Xa_
  replace hva := hva.up Xa_
  replace Z6 := Z6.up Xa_
  replace Z8 := Z8.up Xa_
  replace X := X.trans Xa_
  clear Xa_
  clear hg9 cB cA
  repeat' (first | (with_reducible refine RunLN.chk ?_; refine RunLN.int (by (first | (refine wr_i64 ?_ ?_; omega; omega) | (refine wm_i64 ?_; omega) | (refine wq_i64 ?_ ?_ ?_; omega; omega; omega) | rfl)) ?_) | refine RunLN.any ?_ | refine RunL.ev Tryd.tOk rfl rfl rfl ?_)
  refine RunL.alloc Tryd.tOk rfl rfl rfl fun B10 wa_ aa_ => ?_
  have gB10 := aa_.ge X
  refine RunL.storeW (vs := dCells b (.slice ub b.seen.length ucb) (.slice vb b.data.length vcb)) Tryd.tOk rfl rfl rfl rfl rfl aa_.at_ rfl rfl fun w10_ tb_ => ?_
  have Xa_ : Ext _ w10_ := aa_.ext.write tb_.ext (by intro i_ hi_ hlt_; have := aa_.eq; omega)
  have Z10 : Blk w10_ B10 (dCells b (.slice ub b.seen.length ucb) (.slice vb b.data.length vcb)) 29 := tb_.at_
  have n6_10 : B6 ≠ B10 := by have := Z6.lt; have := aa_.eq; omega
  have n10_6 : B10 ≠ B6 := Ne.symm n6_10
  have n8_10 : B8 ≠ B10 := by have := Z8.lt; have := aa_.eq; omega
  have n10_8 : B10 ≠ B8 := Ne.symm n8_10
  replace hk := hk.up Xa_
  replace hua := hua.up Xa_
  replace hva := hva.up Xa_
  replace Z6 := Z6.up Xa_
  replace Z8 := Z8.up Xa_
  replace hub := hub.up Xa_
  replace hvb := hvb.up Xa_
  replace X := X.trans Xa_
  clear Xa_ aa_ tb_
  repeat' (first | (with_reducible refine RunLN.chk ?_; refine RunLN.int (by (first | (refine wr_i64 ?_ ?_; omega; omega) | (refine wm_i64 ?_; omega) | (refine wq_i64 ?_ ?_ ?_; omega; omega; omega) | rfl)) ?_) | refine RunLN.any ?_ | refine RunL.ev Tryd.tOk rfl rfl rfl ?_ | refine RunL.evV rfl rfl rfl (OpV.loadN Tryd.tOk rfl rfl rfl rfl (Blk.row Z8)) ?_ | refine RunE.seq ?_ | refine RunE.region ?_ | refine RunL.nil ?_)
  refine RunL.call rfl rfl rfl (cC _ (hS.up X) (hkT.up X)) ?_
  rintro _ _ ⟨⟨uq, ucq, vq, vcq, rfl, huq, hvq⟩, Xa_⟩
  replace hk := hk.up Xa_
  replace hua := hua.up Xa_
  replace hva := hva.up Xa_
  replace Z6 := Z6.up Xa_
  replace Z8 := Z8.up Xa_
  replace hub := hub.up Xa_
  replace hvb := hvb.up Xa_
  replace Z10 := Z10.up Xa_
  replace X := X.trans Xa_
  clear Xa_
  clear cC
  repeat' (first | (with_reducible refine RunLN.chk ?_; refine RunLN.int (by (first | (refine wr_i64 ?_ ?_; omega; omega) | (refine wm_i64 ?_; omega) | (refine wq_i64 ?_ ?_ ?_; omega; omega; omega) | rfl)) ?_) | refine RunLN.any ?_ | refine RunL.ev Tryd.tOk rfl rfl rfl ?_)
  refine RunL.alloc Tryd.tOk rfl rfl rfl fun B12 wa_ aa_ => ?_
  have gB12 := aa_.ge X
  refine RunL.storeW (vs := dCells c (.slice uq c.seen.length ucq) (.slice vq c.data.length vcq)) Tryd.tOk rfl rfl rfl rfl rfl aa_.at_ rfl rfl fun w12_ tb_ => ?_
  have Xa_ : Ext _ w12_ := aa_.ext.write tb_.ext (by intro i_ hi_ hlt_; have := aa_.eq; omega)
  have Z12 : Blk w12_ B12 (dCells c (.slice uq c.seen.length ucq) (.slice vq c.data.length vcq)) 29 := tb_.at_
  have n6_12 : B6 ≠ B12 := by have := Z6.lt; have := aa_.eq; omega
  have n12_6 : B12 ≠ B6 := Ne.symm n6_12
  have n8_12 : B8 ≠ B12 := by have := Z8.lt; have := aa_.eq; omega
  have n12_8 : B12 ≠ B8 := Ne.symm n8_12
  have n10_12 : B10 ≠ B12 := by have := Z10.lt; have := aa_.eq; omega
  have n12_10 : B12 ≠ B10 := Ne.symm n10_12
  replace hk := hk.up Xa_
  replace hua := hua.up Xa_
  replace hva := hva.up Xa_
  replace Z6 := Z6.up Xa_
  replace Z8 := Z8.up Xa_
  replace hub := hub.up Xa_
  replace hvb := hvb.up Xa_
  replace Z10 := Z10.up Xa_
  replace huq := huq.up Xa_
  replace hvq := hvq.up Xa_
  replace X := X.trans Xa_
  clear Xa_ aa_ tb_
  repeat' (first | (with_reducible refine RunLN.chk ?_; refine RunLN.int (by (first | (refine wr_i64 ?_ ?_; omega; omega) | (refine wm_i64 ?_; omega) | (refine wq_i64 ?_ ?_ ?_; omega; omega; omega) | rfl)) ?_) | refine RunLN.any ?_ | refine RunL.ev Tryd.tOk rfl rfl rfl ?_ | refine RunE.seq ?_ | refine RunE.region ?_ | refine RunL.nil ?_)
  refine RunL.call rfl rfl rfl (cD _ (hS.up X) (hkT.up X)) ?_
  rintro _ _ ⟨⟨u1, u2, u3, u4, rfl, -, -⟩, Xa_⟩
  replace hk := hk.up Xa_
  replace hua := hua.up Xa_
  replace hva := hva.up Xa_
  replace Z6 := Z6.up Xa_
  replace Z8 := Z8.up Xa_
  replace hub := hub.up Xa_
  replace hvb := hvb.up Xa_
  replace Z10 := Z10.up Xa_
  replace huq := huq.up Xa_
  replace hvq := hvq.up Xa_
  replace Z12 := Z12.up Xa_
  replace X := X.trans Xa_
  clear Xa_
  clear cD
  repeat' (first | (with_reducible refine RunLN.chk ?_; refine RunLN.int (by (first | (refine wr_i64 ?_ ?_; omega; omega) | (refine wm_i64 ?_; omega) | (refine wq_i64 ?_ ?_ ?_; omega; omega; omega) | rfl)) ?_) | refine RunLN.any ?_ | refine RunL.ev Tryd.tOk rfl rfl rfl ?_)
  refine RunL.alloc Tryd.tOk rfl rfl rfl fun B14 wa_ aa_ => ?_
  have gB14 := aa_.ge X
  refine RunL.storeW (vs := dCells zeroD (.slice u1 0 u2) (.slice u3 0 u4)) Tryd.tOk rfl rfl rfl rfl rfl aa_.at_ rfl rfl fun w14_ tb_ => ?_
  have Xa_ : Ext _ w14_ := aa_.ext.write tb_.ext (by intro i_ hi_ hlt_; have := aa_.eq; omega)
  have Z14 : Blk w14_ B14 (dCells zeroD (.slice u1 0 u2) (.slice u3 0 u4)) 29 := tb_.at_
  have n6_14 : B6 ≠ B14 := by have := Z6.lt; have := aa_.eq; omega
  have n14_6 : B14 ≠ B6 := Ne.symm n6_14
  have n8_14 : B8 ≠ B14 := by have := Z8.lt; have := aa_.eq; omega
  have n14_8 : B14 ≠ B8 := Ne.symm n8_14
  have n10_14 : B10 ≠ B14 := by have := Z10.lt; have := aa_.eq; omega
  have n14_10 : B14 ≠ B10 := Ne.symm n10_14
  have n12_14 : B12 ≠ B14 := by have := Z12.lt; have := aa_.eq; omega
  have n14_12 : B14 ≠ B12 := Ne.symm n12_14
  replace hk := hk.up Xa_
  replace hua := hua.up Xa_
  replace hva := hva.up Xa_
  replace Z6 := Z6.up Xa_
  replace Z8 := Z8.up Xa_
  replace hub := hub.up Xa_
  replace hvb := hvb.up Xa_
  replace Z10 := Z10.up Xa_
  replace huq := huq.up Xa_
  replace hvq := hvq.up Xa_
  replace Z12 := Z12.up Xa_
  replace X := X.trans Xa_
  clear Xa_ aa_ tb_
  clear Z14
  repeat' (first | (with_reducible refine RunLN.chk ?_; refine RunLN.int (by (first | (refine wr_i64 ?_ ?_; omega; omega) | (refine wm_i64 ?_; omega) | (refine wq_i64 ?_ ?_ ?_; omega; omega; omega) | rfl)) ?_) | refine RunLN.any ?_ | refine RunL.ev Tryd.tOk rfl rfl rfl ?_ | refine RunE.seq ?_ | refine RunE.region ?_ | refine RunL.nil ?_)
  refine RunL.call rfl rfl rfl (cE _ (hS.up X) (hkT.up X)) ?_
  rintro _ _ ⟨⟨u1, u2, u3, u4, rfl, -, -⟩, Xa_⟩
  replace hk := hk.up Xa_
  replace hua := hua.up Xa_
  replace hva := hva.up Xa_
  replace Z6 := Z6.up Xa_
  replace Z8 := Z8.up Xa_
  replace hub := hub.up Xa_
  replace hvb := hvb.up Xa_
  replace Z10 := Z10.up Xa_
  replace huq := huq.up Xa_
  replace hvq := hvq.up Xa_
  replace Z12 := Z12.up Xa_
  replace X := X.trans Xa_
  clear Xa_
  clear cE
  repeat' (first | (with_reducible refine RunLN.chk ?_; refine RunLN.int (by (first | (refine wr_i64 ?_ ?_; omega; omega) | (refine wm_i64 ?_; omega) | (refine wq_i64 ?_ ?_ ?_; omega; omega; omega) | rfl)) ?_) | refine RunLN.any ?_ | refine RunL.ev Tryd.tOk rfl rfl rfl ?_)
  refine RunL.alloc Tryd.tOk rfl rfl rfl fun B16 wa_ aa_ => ?_
  have gB16 := aa_.ge X
  refine RunL.storeW (vs := dCells zeroD (.slice u1 0 u2) (.slice u3 0 u4)) Tryd.tOk rfl rfl rfl rfl rfl aa_.at_ rfl rfl fun w16_ tb_ => ?_
  have Xa_ : Ext _ w16_ := aa_.ext.write tb_.ext (by intro i_ hi_ hlt_; have := aa_.eq; omega)
  have Z16 : Blk w16_ B16 (dCells zeroD (.slice u1 0 u2) (.slice u3 0 u4)) 29 := tb_.at_
  have n6_16 : B6 ≠ B16 := by have := Z6.lt; have := aa_.eq; omega
  have n16_6 : B16 ≠ B6 := Ne.symm n6_16
  have n8_16 : B8 ≠ B16 := by have := Z8.lt; have := aa_.eq; omega
  have n16_8 : B16 ≠ B8 := Ne.symm n8_16
  have n10_16 : B10 ≠ B16 := by have := Z10.lt; have := aa_.eq; omega
  have n16_10 : B16 ≠ B10 := Ne.symm n10_16
  have n12_16 : B12 ≠ B16 := by have := Z12.lt; have := aa_.eq; omega
  have n16_12 : B16 ≠ B12 := Ne.symm n12_16
  replace hk := hk.up Xa_
  replace hua := hua.up Xa_
  replace hva := hva.up Xa_
  replace Z6 := Z6.up Xa_
  replace Z8 := Z8.up Xa_
  replace hub := hub.up Xa_
  replace hvb := hvb.up Xa_
  replace Z10 := Z10.up Xa_
  replace huq := huq.up Xa_
  replace hvq := hvq.up Xa_
  replace Z12 := Z12.up Xa_
  replace X := X.trans Xa_
  clear Xa_ aa_ tb_
  clear Z16
  repeat' (first | (with_reducible refine RunLN.chk ?_; refine RunLN.int (by (first | (refine wr_i64 ?_ ?_; omega; omega) | (refine wm_i64 ?_; omega) | (refine wq_i64 ?_ ?_ ?_; omega; omega; omega) | rfl)) ?_) | refine RunLN.any ?_ | refine RunL.ev Tryd.tOk rfl rfl rfl ?_ | refine RunE.seq ?_ | refine RunE.region ?_ | refine RunL.nil ?_)
  refine RunL.call rfl rfl rfl (cJ _ (hS.up X) (hkT.up X)) ?_
  rintro _ _ ⟨rfl, Xa_⟩
  replace hk := hk.up Xa_
  replace hua := hua.up Xa_
  replace hva := hva.up Xa_
  replace Z6 := Z6.up Xa_
  replace Z8 := Z8.up Xa_
  replace hub := hub.up Xa_
  replace hvb := hvb.up Xa_
  replace Z10 := Z10.up Xa_
  replace huq := huq.up Xa_
  replace hvq := hvq.up Xa_
  replace Z12 := Z12.up Xa_
  replace X := X.trans Xa_
  clear Xa_
  clear cJ
  repeat' (first | (with_reducible refine RunLN.chk ?_; refine RunLN.int (by (first | (refine wr_i64 ?_ ?_; omega; omega) | (refine wm_i64 ?_; omega) | (refine wq_i64 ?_ ?_ ?_; omega; omega; omega) | rfl)) ?_) | refine RunLN.any ?_ | refine RunL.ev Tryd.tOk rfl rfl rfl ?_)
  refine RunL.alloc Tryd.tOk rfl rfl rfl fun B18 wa_ aa_ => ?_
  have gB18 := aa_.ge X
  refine RunL.storeW (vs := digC zeroG) Tryd.tOk rfl rfl rfl rfl rfl aa_.at_ rfl rfl fun w18_ tb_ => ?_
  have Xa_ : Ext _ w18_ := aa_.ext.write tb_.ext (by intro i_ hi_ hlt_; have := aa_.eq; omega)
  have Z18 : Blk w18_ B18 (digC zeroG) 23 := tb_.at_
  have n6_18 : B6 ≠ B18 := by have := Z6.lt; have := aa_.eq; omega
  have n18_6 : B18 ≠ B6 := Ne.symm n6_18
  have n8_18 : B8 ≠ B18 := by have := Z8.lt; have := aa_.eq; omega
  have n18_8 : B18 ≠ B8 := Ne.symm n8_18
  have n10_18 : B10 ≠ B18 := by have := Z10.lt; have := aa_.eq; omega
  have n18_10 : B18 ≠ B10 := Ne.symm n10_18
  have n12_18 : B12 ≠ B18 := by have := Z12.lt; have := aa_.eq; omega
  have n18_12 : B18 ≠ B12 := Ne.symm n12_18
  replace hk := hk.up Xa_
  replace hua := hua.up Xa_
  replace hva := hva.up Xa_
  replace Z6 := Z6.up Xa_
  replace Z8 := Z8.up Xa_
  replace hub := hub.up Xa_
  replace hvb := hvb.up Xa_
  replace Z10 := Z10.up Xa_
  replace huq := huq.up Xa_
  replace hvq := hvq.up Xa_
  replace Z12 := Z12.up Xa_
  replace X := X.trans Xa_
  clear Xa_ aa_ tb_
  clear Z18
  repeat' (first | (with_reducible refine RunLN.chk ?_; refine RunLN.int (by (first | (refine wr_i64 ?_ ?_; omega; omega) | (refine wm_i64 ?_; omega) | (refine wq_i64 ?_ ?_ ?_; omega; omega; omega) | rfl)) ?_) | refine RunLN.any ?_ | refine RunL.ev Tryd.tOk rfl rfl rfl ?_ | refine RunL.evV rfl rfl rfl (OpV.loadN Tryd.tOk rfl rfl rfl rfl (Blk.row Z6)) ?_ | refine RunE.seq ?_ | refine RunE.region ?_ | refine RunL.nil ?_)
  have cR := fun kv u v w h1 h2 h3 h4 h5 => dRight_ok [k5, 0, k6] kv a u v w h1 (by simp) E.ki E.wa h2 h3 (by omega) (by omega) h4 h5
  have hrb : rightB [k5, 0, k6] a = true := by unfold rightB; rw [E.keys, E.right]; rfl
  have hre : rightE [k5, 0, k6] = 0 := by unfold rightE; rw [E.keys]; rfl
  rw [hrb, hre] at cR
  clear hrb hre
  refine RunL.call rfl rfl rfl (cR _ _ _ _ (hk.up (ExtB.refl _ _)) hua hva (hS.up X) (hkT.up X)) ?_
  rintro _ _ ⟨rfl, Xa_⟩
  replace hk := hk.up Xa_
  replace hua := hua.up Xa_
  replace hva := hva.up Xa_
  replace Z6 := Z6.up Xa_
  replace Z8 := Z8.up Xa_
  replace hub := hub.up Xa_
  replace hvb := hvb.up Xa_
  replace Z10 := Z10.up Xa_
  replace huq := huq.up Xa_
  replace hvq := hvq.up Xa_
  replace Z12 := Z12.up Xa_
  replace X := X.trans Xa_
  clear Xa_
  clear cR
  repeat' (first | with_reducible refine RunLN.boolT rfl ?_ | (with_reducible refine RunLN.chk ?_; refine RunLN.int (by (first | (refine wr_i64 ?_ ?_; omega; omega) | (refine wm_i64 ?_; omega) | (refine wq_i64 ?_ ?_ ?_; omega; omega; omega) | rfl)) ?_) | refine RunLN.any ?_ | refine RunL.ev Tryd.tOk rfl rfl rfl ?_ | refine RunE.seq ?_ | refine RunE.region ?_ | refine RunL.nil ?_)
  have cR := fun w h4 h5 => dRight_ok [] nilV zeroD nilV nilV w IsSl.nil (by simp) (fun k hk => by simp at hk) ⟨⟨by decide, by decide⟩, ⟨by decide, by decide⟩, ⟨by decide, by decide⟩, ⟨by decide, by decide⟩, ⟨by decide, by decide⟩⟩ IsSl.nil IsSl.nil (by decide) (by decide) h4 h5
  have hrb : rightB [] zeroD = false := by
    unfold rightB
    rw [fine_far (by show ¬ ((0 : Int) < 0); decide), Bool.and_false]
  have hre : rightE [] = 0 := rfl
  rw [hrb, hre] at cR
  clear hrb hre
  refine RunL.call rfl rfl rfl (cR _ (hS.up X) (hkT.up X)) ?_
  rintro _ _ ⟨rfl, Xa_⟩
  replace hk := hk.up Xa_
  replace hua := hua.up Xa_
  replace hva := hva.up Xa_
  replace Z6 := Z6.up Xa_
  replace Z8 := Z8.up Xa_
  replace hub := hub.up Xa_
  replace hvb := hvb.up Xa_
  replace Z10 := Z10.up Xa_
  replace huq := huq.up Xa_
  replace hvq := hvq.up Xa_
  replace Z12 := Z12.up Xa_
  replace X := X.trans Xa_
  clear Xa_
  clear cR
  repeat' (first | with_reducible refine RunLN.boolF rfl ?_ | (with_reducible refine RunLN.chk ?_; refine RunLN.int (by (first | (refine wr_i64 ?_ ?_; omega; omega) | (refine wm_i64 ?_; omega) | (refine wq_i64 ?_ ?_ ?_; omega; omega; omega) | rfl)) ?_) | refine RunLN.any ?_ | refine RunL.ev Tryd.tOk rfl rfl rfl ?_ | refine RunE.seq ?_ | refine RunE.region ?_ | refine RunL.nil ?_)
  refine RunL.ex rfl rfl rfl (OpE.buildSl Tryd.tOk [.int .i64 2] rfl rfl rfl rfl rfl rfl (by simp [Value.cells])) ?_
  rintro _ w_ ⟨B_, rfl, a_⟩
  have h2 : LIn w_ (.slice (some ⟨B_, 0, none⟩) 1 1) [2] := (isSl_added (n := 1) (sz := 1) a_ rfl)
  replace hk := hk.up a_.ext
  replace hua := hua.up a_.ext
  replace hva := hva.up a_.ext
  replace Z6 := Z6.up a_.ext
  replace Z8 := Z8.up a_.ext
  replace hub := hub.up a_.ext
  replace hvb := hvb.up a_.ext
  replace Z10 := Z10.up a_.ext
  replace huq := huq.up a_.ext
  replace hvq := hvq.up a_.ext
  replace Z12 := Z12.up a_.ext
  replace X := X.trans a_.ext
  clear a_
  repeat' (first | refine RunLN.any ?_ | refine RunL.evV rfl rfl rfl (OpV.loadN Tryd.tOk rfl rfl rfl rfl (Blk.row Z6)) ?_)
  have hk2 : KsI [2] := fun k hk => by simp at hk; omega
  have hkd2 : keysD [2] = false := by unfold keysD; rw [List.all_cons, v2n]; rfl
  have cR := fun kv u v w h1 h2 h3 h4 h5 => dRight_ok [2] kv a u v w h1 (by simp) hk2 E.wa h2 h3 (by omega) (by omega) h4 h5
  have hre : rightE [2] = 1 := by unfold rightE; rw [hkd2]; rfl
  have hrb : rightB [2] a = false := by unfold rightB; rw [hkd2]; rfl
  rw [hre, hrb] at cR
  clear hre hrb
  refine RunL.call rfl rfl rfl (cR _ _ _ _ h2 hua hva (hS.up X) (hkT.up X)) ?_
  rintro _ _ ⟨rfl, Xa_⟩
  replace hk := hk.up Xa_
  replace hua := hua.up Xa_
  replace hva := hva.up Xa_
  replace Z6 := Z6.up Xa_
  replace Z8 := Z8.up Xa_
  replace hub := hub.up Xa_
  replace hvb := hvb.up Xa_
  replace Z10 := Z10.up Xa_
  replace huq := huq.up Xa_
  replace hvq := hvq.up Xa_
  replace Z12 := Z12.up Xa_
  replace X := X.trans Xa_
  clear Xa_
  clear cR h2 hk2 hkd2
  repeat' (first | with_reducible refine RunLN.boolT rfl ?_ | with_reducible refine RunLN.boolF rfl ?_ | (with_reducible refine RunLN.chk ?_; refine RunLN.int (by (first | (refine wr_i64 ?_ ?_; omega; omega) | (refine wm_i64 ?_; omega) | (refine wq_i64 ?_ ?_ ?_; omega; omega; omega) | rfl)) ?_) | refine RunLN.any ?_ | refine RunL.ev Tryd.tOk rfl rfl rfl ?_ | refine RunE.condF rfl rfl ?_ | refine RunE.seq ?_ | refine RunE.region ?_ | refine RunL.nil ?_ | refine RunE.skip ?_)
  have hta := E.form
  have htl := text_len hta
  have c2 := fun u v w h h' => rText_ok a u v w h h' hta
  have c3 := fun v w h h1 h2 => dtag_ok a v w h hta h1 h2
  have hgi : idD a = g := by rw [← E.id]; exact (idG_of hta).symm
  rw [hgi] at c3
  clear hgi htl hta
  have ck2 := fun kv w h h1 h2 => dcheck_ok [2] kv [] nilV w h (by simp) (fun k hk => by simp at hk; omega) IsSl.nil (by simp) (fun x hx => by simp at hx) h1 h2
  have ck0 := fun w h1 h2 => dcheck_ok [] nilV [] nilV w IsSl.nil (by simp) (fun k hk => by simp at hk) IsSl.nil (by simp) (fun x hx => by simp at hx) h1 h2
  have ckL := fun v w h h1 h2 => dcheck_ok [] nilV (List.replicate 4097 zeroR) v w IsSl.nil (by simp) (fun k hk => by simp at hk) h (by rw [List.length_replicate]; decide) (fun x hx => by
    rw [List.eq_of_mem_replicate hx]
    exact ⟨⟨⟨by decide, by decide⟩, ⟨by decide, by decide⟩, ⟨by decide, by decide⟩, ⟨by decide, by decide⟩, ⟨by decide, by decide⟩⟩, by decide, by decide, zeroR_held w⟩) h1 h2
  have e2 : chkE [2] ([].map Dr.d) = 1 := by
    unfold chkE
    have : keysD [2] = false := by unfold keysD; rw [List.all_cons, v2n]; rfl
    rw [this]; rfl
  have e0 : chkE [] ([].map Dr.d) = 0 := by unfold chkE; rfl
  have eL : chkE [] ((List.replicate 4097 zeroR).map Dr.d) = 2 := by
    unfold chkE
    rw [List.length_map, List.length_replicate]; rfl
  rw [e2] at ck2
  rw [e0] at ck0
  rw [eL] at ckL
  clear e2 e0 eL
  refine RunE.draw (fun _ => False) mix ?_
  intro wd_ Xd_
  repeat' (first | refine AsyN.any ?_ | refine Asy.evV rfl rfl rfl rfl (fun _ X_ => OpV.loadN Tryd.tOk rfl rfl rfl rfl (Blk.row (Z6.up (Xd_.trans X_)))) ?_ | refine Asy.evV rfl rfl rfl rfl (fun _ X_ => OpV.loadN Tryd.tOk rfl rfl rfl rfl (Blk.row (Z8.up (Xd_.trans X_)))) ?_)
  refine Asy.sat0 (fun q w' => LBy w' q (textD a)) rfl rfl rfl rfl (fun q w' w'' _ e h => h.up e) (fun w' e => ?_) ?_
  · refine OpE.mono (OpE.call rfl (c2 _ _ _ (hua.up (Xd_.trans e)) (hva.up (Xd_.trans e)))) ?_ fun _ _ h => h
    rintro r w'' ⟨h1, h2⟩
    exact ⟨h2, isSl_own h1⟩
  refine Asy.val1 0 (v := .agg (digC g).toArray) rfl rfl rfl rfl rfl rfl (fun w' q e hx => OpE.call rfl (c3 q w' hx (hS.up (X.trans (Xd_.trans e))) (hkT.up (X.trans (Xd_.trans e))))) ?_
  have hgg : (!(g == g)) = false := by rw [beq_self_eq_true]; rfl
  repeat' (first | with_reducible refine AsyN.boolF rfl ?_ | refine AsyN.boolF (by assumption) ?_ | refine Asy.ev Tryd.tOk rfl rfl rfl ?_ | refine Asy.evV rfl rfl rfl rfl (fun _ X_ => (OpV.neDg (a := g) (b := g) bytesArr rfl rfl)) ?_)
  refine Asy.sat0 (fun q w' => LIn w' q [2]) rfl rfl rfl rfl (fun q w' w'' _ e h => h.up e) (fun w' e => ?_) ?_
  · refine OpE.mono (OpE.buildSl Tryd.tOk [.int .i64 2] rfl rfl rfl rfl rfl rfl (by simp [Value.cells])) ?_ fun _ _ h => h
    rintro _ w'' ⟨B, rfl, a⟩
    exact ⟨a.ext, isSl_added (n := 1) (sz := 1) a rfl⟩
  refine Asy.val1 0 (v := .int .i64 1) rfl rfl rfl rfl rfl rfl (fun w' q e hx => OpE.call rfl (ck2 q w' hx (hS.up (X.trans (Xd_.trans e))) (hkT.up (X.trans (Xd_.trans e))))) ?_
  repeat' (first | with_reducible refine AsyN.boolF rfl ?_ | (with_reducible refine AsyN.chk ?_; refine AsyN.int (by (first | (refine wr_i64 ?_ ?_; omega; omega) | (refine wm_i64 ?_; omega) | (refine wq_i64 ?_ ?_ ?_; omega; omega; omega) | rfl)) ?_) | refine Asy.ev Tryd.tOk rfl rfl rfl ?_ | refine Asy.callN rfl rfl rfl (fun _ X_ => (ck0 _ (hS.up (X.trans (Xd_.trans X_))) (hkT.up (X.trans (Xd_.trans X_))))) ?_)
  refine Asy.sat0 (fun q w' => LDr w' q (List.replicate 4097 zeroR)) rfl rfl rfl rfl (fun q w' w'' _ e h => h.up e) (fun w' e => ?_) ?_
  · refine OpE.mono (OpE.makeL encR Tryd.tOk 4097 zeroR rfl rfl rfl rfl rfl rfl rfl (by decide) (by decide)) ?_ fun _ _ h => h
    rintro _ w'' ⟨-, h1, h2⟩
    exact ⟨h2, h1⟩
  refine Asy.val1 0 (v := .int .i64 2) rfl rfl rfl rfl rfl rfl (fun w' q e hx => OpE.call rfl (ckL q w' hx (hS.up (X.trans (Xd_.trans e))) (hkT.up (X.trans (Xd_.trans e))))) ?_
  repeat' (first | with_reducible refine AsyN.boolF rfl ?_ | refine Asy.ev Tryd.tOk rfl rfl rfl ?_)
  refine Asy.tail (by kernel_rfl) ?_
  intro we_ Xe_
  simp only [satsAll]
  rintro _ - _ - _ -
  replace Xe_ := Xd_.trans Xe_
  replace hk := hk.up Xe_
  replace hua := hua.up Xe_
  replace hva := hva.up Xe_
  replace hub := hub.up Xe_
  replace hvb := hvb.up Xe_
  replace huq := huq.up Xe_
  replace hvq := hvq.up Xe_
  replace Z6 := Z6.up Xe_
  replace Z10 := Z10.up Xe_
  replace Z12 := Z12.up Xe_
  replace X := X.trans Xe_
  clear Xd_ Xe_ Z8 hgg c2 c3 ck2 ck0 ckL h120
  have cka := fun (l : List Dr) kv lv w h h0 hl hd h1 h2 => dcheck_ok [k5, 0, k6] kv l lv w h (by simp) E.ki h0 hl hd h1 h2
  have ckn := fun (l : List Dr) lv w h0 hl hd h1 h2 => dcheck_ok [] nilV l lv w IsSl.nil (by simp) (fun k hk => by simp at hk) h0 hl hd h1 h2
  have wa : ∀ w, LDg w (.slice ua a.seen.length uc) a.seen → LBy w (.slice va a.data.length vc) a.data → WfX w ⟨a, ua, uc, va, vc⟩ := fun w h h' => ⟨E.wa, by show a.seen.length < _; omega, by show a.data.length < _; omega, h, h'⟩
  have wb : ∀ w, LDg w (.slice ub b.seen.length ucb) b.seen → LBy w (.slice vb b.data.length vcb) b.data → WfX w ⟨b, ub, ucb, vb, vcb⟩ := fun w h h' => ⟨E.wb, by show b.seen.length < _; omega, by show b.data.length < _; omega, h, h'⟩
  have wc : ∀ w, LDg w (.slice uq c.seen.length ucq) c.seen → LBy w (.slice vq c.data.length vcq) c.data → WfX w ⟨c, uq, ucq, vq, vcq⟩ := fun w h h' => ⟨E.wc, by show c.seen.length < _; omega, by show c.data.length < _; omega, h, h'⟩
  have ck1 := fun kv lv w h h0 hd h1 h2 => cka [⟨a, ua, uc, va, vc⟩, ⟨b, ub, ucb, vb, vcb⟩, ⟨c, uq, ucq, vq, vcq⟩] kv lv w h h0 (by simp) hd h1 h2
  have ck2 := fun kv lv w h h0 hd h1 h2 => cka [⟨b, ub, ucb, vb, vcb⟩, ⟨a, ua, uc, va, vc⟩] kv lv w h h0 (by simp) hd h1 h2
  have ck3 := fun kv lv w h h0 hd h1 h2 => cka [⟨c, uq, ucq, vq, vcq⟩] kv lv w h h0 (by simp) hd h1 h2
  have ck4 := fun kv lv w h h0 hd h1 h2 => cka [⟨a, ua, uc, va, vc⟩, ⟨a, ua, uc, va, vc⟩] kv lv w h h0 (by simp) hd h1 h2
  have ck5 := fun lv w h0 hd h1 h2 => ckn [⟨a, ua, uc, va, vc⟩] lv w h0 (by simp) hd h1 h2
  simp only [List.map_cons, List.map_nil, E.abc] at ck1
  simp only [List.map_cons, List.map_nil, E.ba] at ck2
  simp only [List.map_cons, List.map_nil, E.c_] at ck3
  simp only [List.map_cons, List.map_nil, E.aa] at ck4
  simp only [List.map_cons, List.map_nil, E.none] at ck5
  clear cka ckn E
  repeat' (first | refine RunLN.any ?_ | refine RunL.ev Tryd.tOk rfl rfl rfl ?_ | refine RunL.evV rfl rfl rfl (OpV.loadN Tryd.tOk rfl rfl rfl rfl (Blk.row Z6)) ?_ | refine RunL.evV rfl rfl rfl (OpV.loadN Tryd.tOk rfl rfl rfl rfl (Blk.row Z10)) ?_ | refine RunL.evV rfl rfl rfl (OpV.loadN Tryd.tOk rfl rfl rfl rfl (Blk.row Z12)) ?_ | refine RunE.condF rfl rfl ?_ | refine RunE.seq ?_ | refine RunE.region ?_ | refine RunL.nil ?_ | refine RunE.skip ?_)
  refine RunL.ex rfl rfl rfl (OpE.buildL encR Tryd.tOk [⟨a, ua, uc, va, vc⟩, ⟨b, ub, ucb, vb, vcb⟩, ⟨c, uq, ucq, vq, vcq⟩] rfl rfl rfl rfl rfl rfl) ?_
  rintro _ w9 ⟨⟨B9, rfl⟩, hL, Xa_⟩
  replace hk := hk.up Xa_
  replace hua := hua.up Xa_
  replace hva := hva.up Xa_
  replace hub := hub.up Xa_
  replace hvb := hvb.up Xa_
  replace huq := huq.up Xa_
  replace hvq := hvq.up Xa_
  replace Z6 := Z6.up Xa_
  replace Z10 := Z10.up Xa_
  replace Z12 := Z12.up Xa_
  replace X := X.trans Xa_
  clear Xa_
  have hW : ∀ x ∈ ([⟨a, ua, uc, va, vc⟩, ⟨b, ub, ucb, vb, vcb⟩, ⟨c, uq, ucq, vq, vcq⟩] : List Dr), WfX w9 x := by
    intro x hx
    simp only [List.mem_cons, List.not_mem_nil, or_false] at hx
    rcases hx with rfl | rfl | rfl
    · exact wa _ hua hva
    · exact wb _ hub hvb
    · exact wc _ huq hvq
  skip
  refine RunL.call rfl rfl rfl (ck1 _ _ _ hk hL hW (hS.up X) (hkT.up X)) ?_
  rintro _ _ ⟨rfl, Xa_⟩
  replace hk := hk.up Xa_
  replace hua := hua.up Xa_
  replace hva := hva.up Xa_
  replace Z6 := Z6.up Xa_
  replace hub := hub.up Xa_
  replace hvb := hvb.up Xa_
  replace Z10 := Z10.up Xa_
  replace huq := huq.up Xa_
  replace hvq := hvq.up Xa_
  replace Z12 := Z12.up Xa_
  replace X := X.trans Xa_
  clear Xa_
  clear ck1 hL hW
  repeat' (first | with_reducible refine RunLN.boolT rfl ?_ | refine RunLN.any ?_ | refine RunL.ev Tryd.tOk rfl rfl rfl ?_ | refine RunL.evV rfl rfl rfl (OpV.loadN Tryd.tOk rfl rfl rfl rfl (Blk.row Z6)) ?_ | refine RunL.evV rfl rfl rfl (OpV.loadN Tryd.tOk rfl rfl rfl rfl (Blk.row Z10)) ?_)
  refine RunL.ex rfl rfl rfl (OpE.buildL encR Tryd.tOk [⟨b, ub, ucb, vb, vcb⟩, ⟨a, ua, uc, va, vc⟩] rfl rfl rfl rfl rfl rfl) ?_
  rintro _ w9 ⟨⟨B9, rfl⟩, hL, Xa_⟩
  replace hk := hk.up Xa_
  replace hua := hua.up Xa_
  replace hva := hva.up Xa_
  replace hub := hub.up Xa_
  replace hvb := hvb.up Xa_
  replace huq := huq.up Xa_
  replace hvq := hvq.up Xa_
  replace Z6 := Z6.up Xa_
  replace Z10 := Z10.up Xa_
  replace Z12 := Z12.up Xa_
  replace X := X.trans Xa_
  clear Xa_
  have hW : ∀ x ∈ ([⟨b, ub, ucb, vb, vcb⟩, ⟨a, ua, uc, va, vc⟩] : List Dr), WfX w9 x := by
    intro x hx
    simp only [List.mem_cons, List.not_mem_nil, or_false] at hx
    rcases hx with rfl | rfl
    · exact wb _ hub hvb
    · exact wa _ hua hva
  skip
  refine RunL.call rfl rfl rfl (ck2 _ _ _ hk hL hW (hS.up X) (hkT.up X)) ?_
  rintro _ _ ⟨rfl, Xa_⟩
  replace hk := hk.up Xa_
  replace hua := hua.up Xa_
  replace hva := hva.up Xa_
  replace Z6 := Z6.up Xa_
  replace hub := hub.up Xa_
  replace hvb := hvb.up Xa_
  replace Z10 := Z10.up Xa_
  replace huq := huq.up Xa_
  replace hvq := hvq.up Xa_
  replace Z12 := Z12.up Xa_
  replace X := X.trans Xa_
  clear Xa_
  clear ck2 hL hW
  repeat' (first | with_reducible refine RunLN.boolT rfl ?_ | refine RunLN.any ?_ | refine RunL.ev Tryd.tOk rfl rfl rfl ?_ | refine RunL.evV rfl rfl rfl (OpV.loadN Tryd.tOk rfl rfl rfl rfl (Blk.row Z12)) ?_)
  refine RunL.ex rfl rfl rfl (OpE.buildL encR Tryd.tOk [⟨c, uq, ucq, vq, vcq⟩] rfl rfl rfl rfl rfl rfl) ?_
  rintro _ w9 ⟨⟨B9, rfl⟩, hL, Xa_⟩
  replace hk := hk.up Xa_
  replace hua := hua.up Xa_
  replace hva := hva.up Xa_
  replace hub := hub.up Xa_
  replace hvb := hvb.up Xa_
  replace huq := huq.up Xa_
  replace hvq := hvq.up Xa_
  replace Z6 := Z6.up Xa_
  replace Z10 := Z10.up Xa_
  replace Z12 := Z12.up Xa_
  replace X := X.trans Xa_
  clear Xa_
  have hW : ∀ x ∈ ([⟨c, uq, ucq, vq, vcq⟩] : List Dr), WfX w9 x := by
    intro x hx
    simp only [List.mem_cons, List.not_mem_nil, or_false] at hx
    rcases hx with rfl
    · exact wc _ huq hvq
  skip
  refine RunL.call rfl rfl rfl (ck3 _ _ _ hk hL hW (hS.up X) (hkT.up X)) ?_
  rintro _ _ ⟨rfl, Xa_⟩
  replace hk := hk.up Xa_
  replace hua := hua.up Xa_
  replace hva := hva.up Xa_
  replace Z6 := Z6.up Xa_
  replace hub := hub.up Xa_
  replace hvb := hvb.up Xa_
  replace Z10 := Z10.up Xa_
  replace huq := huq.up Xa_
  replace hvq := hvq.up Xa_
  replace Z12 := Z12.up Xa_
  replace X := X.trans Xa_
  clear Xa_
  clear ck3 hL hW
  repeat' (first | with_reducible refine RunLN.boolT rfl ?_ | refine RunLN.any ?_ | refine RunL.ev Tryd.tOk rfl rfl rfl ?_ | refine RunL.evV rfl rfl rfl (OpV.loadN Tryd.tOk rfl rfl rfl rfl (Blk.row Z6)) ?_)
  refine RunL.ex rfl rfl rfl (OpE.buildL encR Tryd.tOk [⟨a, ua, uc, va, vc⟩, ⟨a, ua, uc, va, vc⟩] rfl rfl rfl rfl rfl rfl) ?_
  rintro _ w9 ⟨⟨B9, rfl⟩, hL, Xa_⟩
  replace hk := hk.up Xa_
  replace hua := hua.up Xa_
  replace hva := hva.up Xa_
  replace hub := hub.up Xa_
  replace hvb := hvb.up Xa_
  replace huq := huq.up Xa_
  replace hvq := hvq.up Xa_
  replace Z6 := Z6.up Xa_
  replace Z10 := Z10.up Xa_
  replace Z12 := Z12.up Xa_
  replace X := X.trans Xa_
  clear Xa_
  have hW : ∀ x ∈ ([⟨a, ua, uc, va, vc⟩, ⟨a, ua, uc, va, vc⟩] : List Dr), WfX w9 x := by
    intro x hx
    simp only [List.mem_cons, List.not_mem_nil, or_false] at hx
    rcases hx with rfl | rfl
    · exact wa _ hua hva
    · exact wa _ hua hva
  skip
  refine RunL.call rfl rfl rfl (ck4 _ _ _ hk hL hW (hS.up X) (hkT.up X)) ?_
  rintro _ _ ⟨rfl, Xa_⟩
  replace hk := hk.up Xa_
  replace hua := hua.up Xa_
  replace hva := hva.up Xa_
  replace Z6 := Z6.up Xa_
  replace hub := hub.up Xa_
  replace hvb := hvb.up Xa_
  replace Z10 := Z10.up Xa_
  replace huq := huq.up Xa_
  replace hvq := hvq.up Xa_
  replace Z12 := Z12.up Xa_
  replace X := X.trans Xa_
  clear Xa_
  clear ck4 hL hW
  repeat' (first | with_reducible refine RunLN.boolT rfl ?_ | refine RunLN.any ?_ | refine RunL.ev Tryd.tOk rfl rfl rfl ?_ | refine RunL.evV rfl rfl rfl (OpV.loadN Tryd.tOk rfl rfl rfl rfl (Blk.row Z6)) ?_)
  refine RunL.ex rfl rfl rfl (OpE.buildL encR Tryd.tOk [⟨a, ua, uc, va, vc⟩] rfl rfl rfl rfl rfl rfl) ?_
  rintro _ w9 ⟨⟨B9, rfl⟩, hL, Xa_⟩
  replace hk := hk.up Xa_
  replace hua := hua.up Xa_
  replace hva := hva.up Xa_
  replace hub := hub.up Xa_
  replace hvb := hvb.up Xa_
  replace huq := huq.up Xa_
  replace hvq := hvq.up Xa_
  replace Z6 := Z6.up Xa_
  replace Z10 := Z10.up Xa_
  replace Z12 := Z12.up Xa_
  replace X := X.trans Xa_
  clear Xa_
  have hW : ∀ x ∈ ([⟨a, ua, uc, va, vc⟩] : List Dr), WfX w9 x := by
    intro x hx
    simp only [List.mem_cons, List.not_mem_nil, or_false] at hx
    rcases hx with rfl
    · exact wa _ hua hva
  skip
  refine RunL.call rfl rfl rfl (ck5 _ _ hL hW (hS.up X) (hkT.up X)) ?_
  rintro _ _ ⟨rfl, Xa_⟩
  replace X := X.trans Xa_
  clear Xa_
  repeat' (first | with_reducible refine RunLN.boolT rfl ?_ | refine RunL.ev Tryd.tOk rfl rfl rfl ?_ | refine RunL.nil ?_)
  exact RunE.retFn Tryd.func9 (.tmp rfl .nil) ⟨rfl, X⟩
theorem l49_sane_ok (w : World) (hS : Row w 0 0 (vals init8.l)) (hkT : Row w 1 0 (vals kTab)) : Rets Tryd.prog 9 [] w fun r w' => r = .bool true ∧ Ext w w' := by
  have ed : makeE 0 (askD 0 0 0 zeroG [] []) = 110 := by unfold makeE; rfl
  have ee : makeE 5 (askD 0 0 0 oneG [] []) = 490 := by unfold makeE; rfl
  exact l49_sane_gen _ _ _ _ (powC 4 5) (powC 4 6) ex_ok rfl rfl rfl (makeE_ok (by decide) aD_f) rfl (makeE_ok (by decide) (bD_f _)) rfl (makeE_ok (by decide) (cD_f _)) (make_bad (by rw [ed]; decide)) ed (make_bad (by rw [ee]; decide)) ee w hS hkT
end Go.Sg
end
section
/- A law's last step, whatever the law: it has returned true, and of what lay in memory nothing has turned. -/
namespace Go.Sg
open Go.Rn Go.RowKit Go.WideShapes Go.ChangeShapes

section
variable {H : Type} {enc : TypeId × Value → H} {P : Program}

theorem trodAll_stays (hl : laidOutB P = true) {W W' : World} (hb : Below W.heap.size W W') : ∀ (ts : List TypeId) (vs : List Value) (ds : List (DataW H)) (ps : List MemPlace),
    (∀ t ∈ ts, P.readableRec t = true ∧ t < P.types.size) → (∀ x ∈ ps, x.block < W.heap.size) → DataW.TrodAll enc P W 0 (fun _ => true) true ts vs ds ps →
    DataW.TrodAll enc P W' 0 (fun b => decide (b < W.heap.size)) true ts vs ds ps
  | [], vs, ds, ps, _, _, h => by
    obtain ⟨rfl, rfl, rfl⟩ := trodAll_nil h
    exact trodAll_mk0
  | t :: ts, vs, ds, ps, ht, hp, h => by
    obtain ⟨v, vs', d, ds', p, q, rfl, rfl, rfl, hd, hr⟩ := trodAll_cons h
    have h1 := ht t (by simp)
    exact trodAll_cons_mk (Below.trod hl h1.1 h1.2 hd hb (fun x hx => hp x (by simp [hx])))
      (trodAll_stays hl hb ts vs' ds' q (fun u hu => ht u (by simp [hu])) (fun x hx => hp x (by simp [hx])) hr)

theorem law_post {f : Func} {s : ChangeSpec} {apart fresh : Bool} {W W' : World} {args : Array Value} {ds gs : List (DataW H)} {before : List MemPlace} {t : TypeId}
    (hl : laidOutB P = true) (hpar : f.params.toList.all (fun t => P.readableRec t && decide (t < P.types.size)) = true) (hrt : f.resultTypes = #[t]) (hbool : P.underlying t = some .bool) (hvars : s.vars = [])
    (hfn : ∀ ds : List (DataW H), ds.length = f.params.size → s.fn H ds = { results := [.lit (.bool true)], args := ds })
    (hW : DataW.Whole enc P f.params.toList s.vars apart W args.toList ds gs before) (hb : Ext W W') :
    s.post enc P f apart fresh false false W args (.bool true) W' := by
  have hW' := hW
  obtain ⟨p, q, hA, hV, rfl, hfz, hnd⟩ := hW
  rw [hvars] at hV
  obtain ⟨rfl, rfl⟩ := trodVars_none hV
  have hlen : ds.length = f.params.size := by
    have : ∀ (ts : List TypeId) (vs : List Value) (ds : List (DataW H)) (ps : List MemPlace), DataW.TrodAll enc P W 0 (fun _ => true) true ts vs ds ps → ds.length = ts.length := by
      intro ts
      induction ts with
      | nil => intro vs ds ps h; obtain ⟨rfl, rfl, rfl⟩ := trodAll_nil h; rfl
      | cons t ts ih =>
        intro vs ds ps h
        obtain ⟨v, vs', d, ds', p, q, rfl, rfl, rfl, hd, hr⟩ := trodAll_cons h
        simp [ih _ _ _ hr]
    simpa using this _ _ _ _ hA
  have hfn' := hfn ds hlen
  have hlt : ∀ x ∈ p, x.block < W.heap.size := fun x hx => by simpa using hW'.lt x (by simpa using hx)
  have hpar' : ∀ t ∈ f.params.toList, P.readableRec t = true ∧ t < P.types.size := fun t ht => by
    have := List.all_eq_true.1 hpar t ht
    simpa using this
  have hA' := trodAll_stays hl hb.below _ _ _ _ hpar' hlt hA
  refine ⟨ds, [], p ++ [], [], p, [], hW', ?_, ?_, ?_, World.keptBut_mono (fun x hx => ⟨hx, .inr (.inl (by simpa using hx))⟩) (hb.below.frame (· ∈ p ++ [])), fun h => by simp at h⟩
  · rw [List.append_nil, hfn', hrt]
    exact trodAll_mk1 (shut_bool hbool _)
  · rw [List.append_nil, hfn']; exact hA'
  · rw [List.append_nil, hfn', hvars]; exact hV
end

theorem i64_of_wf {n : Int} (h : (Lit.int .i64 n).wf = true) : -9223372036854775808 ≤ n ∧ n < 9223372036854775808 := by
  have e1 : IntKind.i64.min = -9223372036854775808 := rfl
  have e2 : IntKind.i64.max = 9223372036854775807 := rfl
  simp only [Lit.wf, decide_eq_true_eq, Bool.and_eq_true, e1, e2] at h
  omega

theorem i32_of_wf {n : Int} (h : (Lit.int .i32 n).wf = true) : -2147483648 ≤ n ∧ n < 2147483648 := by
  have e1 : IntKind.i32.min = -2147483648 := rfl
  have e2 : IntKind.i32.max = 2147483647 := rfl
  simp only [Lit.wf, decide_eq_true_eq, Bool.and_eq_true, e1, e2] at h
  omega
theorem u8_of_wf {n : Int} (h : (Lit.int .u8 n).wf = true) : 0 ≤ n ∧ n < 256 := by
  have e1 : IntKind.u8.min = 0 := rfl
  have e2 : IntKind.u8.max = 255 := rfl
  simp only [Lit.wf, decide_eq_true_eq, Bool.and_eq_true, e1, e2] at h
  omega

/-- What a law's walk owes. -/
theorem Rets.calls {P : Program} {g : FuncId} {args : List Value} {w : World} {R : Value → World → Prop} (h : Rets P g args w R) : Calls P g args.toArray w (fun e w' => ∃ v, e = .returned v ∧ R v w') :=
  h.2.mono fun e w' he => by
    cases e with
    | returned v => exact ⟨v, rfl, he⟩
    | panicked ch => exact he.elim
    | outgrown => exact he.elim
end Go.Sg
end
section
/- Structs whose fields are numbers, bools and texts. -/
namespace Go.Rn
open Go.RowKit Go.ChangeShapes Go.WideShapes
inductive FK where
  | int (k : IntKind)
  | bool
  | str
def FK.desc : FK → TypeDesc
  | .int k => .int k
  | .bool => .bool
  | .str => .string
def FK.ok : FK → Value → Prop
  | .int k, v => ∃ n, v = .int k n
  | .bool, v => ∃ b, v = .bool b
  | .str, v => ∃ s, v = .string s
def FK.wf : FK → Value → Prop
  | .int k, v => ∃ n, v = .int k n ∧ (Lit.int k n).wf = true
  | .bool, v => ∃ b, v = .bool b
  | .str, v => ∃ s : ByteArray, v = .string s ∧ s.size ≤ maxLen
def veq : Value → Value → Bool
  | .int _ a, .int _ b => a == b
  | .bool a, .bool b => a == b
  | .string a, .string b => a.toList == b.toList
  | _, _ => false
def eqAll : List Value → List Value → Bool
  | [], [] => true
  | a :: r, b :: s => veq a b && eqAll r s
  | _, _ => false
/-- A struct type with such fields, one cell each. -/
structure Flat (P : Program) (t : TypeId) (ts : List (TypeId × FK)) : Prop where
  und : P.underlying t = some (.struct (P.fieldsOf t))
  fields : (P.fieldsOf t).toList.map (fun f => ((f.name == "_"), f.type, f.offset)) = ts.zipIdx.map fun x => (false, x.1.1, x.2)
  held : P.stoodInHeld t = false
  guard : P.eqGuardType P.depth t = false
  cells : P.cellsOf t = ts.length
  kinds : ∀ x ∈ ts, P.underlying x.1 = some x.2.desc ∧ cellsAgg P x.1 = some (1, false) ∧ P.cellsOf x.1 = 1
variable {P : Program} {w : World}
theorem run_eqFlat {d : Nat} (xs ys : List Value) : ∀ (fs : List Field) (ts : List (TypeId × FK)) (k : Nat), fs.map (fun f => ((f.name == "_"), f.type, f.offset)) = (ts.zipIdx k).map (fun x => (false, x.1.1, x.2)) →
    (∀ x ∈ ts, P.underlying x.1 = some x.2.desc ∧ cellsAgg P x.1 = some (1, false) ∧ P.cellsOf x.1 = 1) → xs.length = k + ts.length → ys.length = k + ts.length →
    (∀ (i : Nat) (x : TypeId × FK), ts[i]? = some x → ∃ u v, xs[k + i]? = some u ∧ ys[k + i]? = some v ∧ x.2.ok u ∧ x.2.ok v) → (Op.eqFields (d + 1) xs.toArray ys.toArray fs).run P w = .ok (eqAll (xs.drop k) (ys.drop k)) w
  | [], [], k, _, _, hx, hy, _ => by
    rw [List.drop_eq_nil_of_le (by simp at hx; omega), List.drop_eq_nil_of_le (by simp at hy; omega)]; rfl
  | [], t :: ts, k, h, _, _, _, _ => by simp at h
  | f :: fs, [], k, h, _, _, _, _ => by simp at h
  | f :: fs, x :: ts, k, h, hk, hx, hy, hv => by
    simp only [List.map_cons, List.zipIdx_cons, List.cons.injEq, Prod.mk.injEq] at h
    obtain ⟨⟨n0, t0, o0⟩, hr⟩ := h
    have n0' : f.name ≠ "_" := by simpa using n0
    obtain ⟨u, v, hu, hv', ku, kv⟩ := hv 0 x rfl
    obtain ⟨hd, hc, -⟩ := hk x List.mem_cons_self
    rw [Nat.add_zero] at hu hv'
    have pu : (part f.type xs.toArray f.offset).run P w = .ok u w := by rw [t0, o0]; exact run_part hc _ _ (by simpa using hu)
    have pv : (part f.type ys.toArray f.offset).run P w = .ok v w := by rw [t0, o0]; exact run_part hc _ _ (by simpa using hv')
    have pe : (Op.equalIn (d + 1) f.type u v).run P w = .ok (veq u v) w := by
      rw [t0]
      obtain ⟨ti, kd⟩ := x
      cases kd with
      | int kk => obtain ⟨a, rfl⟩ := ku; obtain ⟨b, rfl⟩ := kv; exact run_equalIn_int w d ti kk kk a b hd
      | bool => obtain ⟨a, rfl⟩ := ku; obtain ⟨b, rfl⟩ := kv; exact run_equalIn_bool w d ti a b hd
      | str => obtain ⟨a, rfl⟩ := ku; obtain ⟨b, rfl⟩ := kv; exact run_equalIn_string w d ti a b hd
    have hkx : k < xs.length := by rw [hx]; simp
    have hky : k < ys.length := by rw [hy]; simp
    have e1 : xs.drop k = u :: xs.drop (k + 1) := by rw [List.drop_eq_getElem_cons hkx]; rw [List.getElem?_eq_getElem hkx] at hu; injection hu with hu; rw [hu]
    have e2 : ys.drop k = v :: ys.drop (k + 1) := by rw [List.drop_eq_getElem_cons hky]; rw [List.getElem?_eq_getElem hky] at hv'; injection hv' with hv'; rw [hv']
    have ih := run_eqFlat (d := d) xs ys fs ts (k + 1) hr (fun y hy => hk y (List.mem_cons_of_mem _ hy)) (by rw [hx, List.length_cons]; omega) (by rw [hy, List.length_cons]; omega)
      (fun i y hi => by obtain ⟨u, v, h1, h2, h3⟩ := hv (i + 1) y hi; exact ⟨u, v, by rw [← h1]; congr 1; omega, by rw [← h2]; congr 1; omega, h3⟩)
    simp only [Op.eqFields, n0', ne_eq, not_false_eq_true, if_true]
    rw [run_bind _ _ pu, run_bind _ _ pv, run_bind _ _ pe, e1, e2]
    simp only [eqAll]
    cases hb : veq u v with
    | false => rfl
    | true => simp only [Bool.not_true, Bool.false_eq_true, if_false, Bool.true_and]; exact ih
/-- The cells fit. -/
def fits (ts : List (TypeId × FK)) (cs : List Value) : Prop := cs.length = ts.length ∧ ∀ (i : Nat) (x : TypeId × FK), ts[i]? = some x → ∃ u, cs[i]? = some u ∧ x.2.ok u
theorem Flat.run {t : TypeId} {ts : List (TypeId × FK)} (h : Flat P t ts) {xs ys : List Value} (hx : fits ts xs) (hy : fits ts ys) :
    (Op.equalIn 10000 t (.agg xs.toArray) (.agg ys.toArray)).run P w = .ok (eqAll xs ys) w := by
  rw [show (10000 : Nat) = 9999 + 1 from rfl, run_equalIn_struct w 9999 _ _ _ h.und h.held]
  have := run_eqFlat (P := P) (w := w) (d := 9998) xs ys (P.fieldsOf t).toList ts 0 h.fields h.kinds (by rw [hx.1]; omega) (by rw [hy.1]; omega) (fun i x hi => by
    obtain ⟨u, h1, h2⟩ := hx.2 i x hi
    obtain ⟨v, h3, h4⟩ := hy.2 i x hi
    exact ⟨u, v, by rw [Nat.zero_add]; exact h1, by rw [Nat.zero_add]; exact h3, h2, h4⟩)
  simpa using this
variable {env : Env} {dst : Option Tmp} {ty : TypeId} {pos : String} {after : Array Edge} {guard : Option (Nat × Bool)}
theorem OpV.eqFlat {t u : TypeId} {ts : List (TypeId × FK)} (h : Flat P t ts) {x y : Operand} {xs ys : List Value} (hx : evO env x = some (.agg xs.toArray)) (hy : evO env y = some (.agg ys.toArray)) (h1 : fits ts xs) (h2 : fits ts ys) :
    OpV P env w ⟨dst, .binOp .eql t x y u, ty, pos, after, guard⟩ (.bool (eqAll xs ys)) := .of_run fun ρ hρ => by
  refine ⟨_, by simp only [execOp, hρ _ _ hx, hρ _ _ hy]; rfl, ?_⟩
  rw [run_bind _ _ (run_eqGuard_agg w .eql t x y _ _ h.guard), run_eql_struct, h.run h1 h2]; rfl
theorem OpV.neFlat {t u : TypeId} {ts : List (TypeId × FK)} (h : Flat P t ts) {x y : Operand} {xs ys : List Value} (hx : evO env x = some (.agg xs.toArray)) (hy : evO env y = some (.agg ys.toArray)) (h1 : fits ts xs) (h2 : fits ts ys) :
    OpV P env w ⟨dst, .binOp .neq t x y u, ty, pos, after, guard⟩ (.bool (!(eqAll xs ys))) := .of_run fun ρ hρ => by
  refine ⟨_, by simp only [execOp, hρ _ _ hx, hρ _ _ hy]; rfl, ?_⟩
  rw [run_bind _ _ (run_eqGuard_agg w .neq t x y _ _ h.guard), run_neq_struct, h.run h1 h2]; rfl
/-- What comes in. -/
theorem shp_flat {t : TypeId} {ts : List (TypeId × FK)} (h : Flat P t ts) {fuel : Nat} {cs : List Value} (hs : Shp P w fuel t cs) : cs.length = ts.length ∧ ∀ (i : Nat) (x : TypeId × FK), ts[i]? = some x → ∃ u, cs[i]? = some u ∧ x.2.wf u := by
  obtain ⟨hl, f, hs⟩ := hs.struct h.und
  rw [h.cells] at hl
  refine ⟨hl, fun i x hi => ?_⟩
  have hf := congrArg (·[i]?) h.fields
  simp only [List.getElem?_map, List.getElem?_zipIdx, hi, Option.map_some, Nat.zero_add] at hf
  obtain ⟨fl, hfl, he⟩ := Option.map_eq_some_iff.1 hf
  simp only [Prod.mk.injEq] at he
  obtain ⟨-, t0, o0⟩ := he
  have h0 := hs fl (List.mem_of_getElem? hfl)
  obtain ⟨hd, -, hc⟩ := h.kinds x (List.mem_of_getElem? hi)
  have hilt : i < ts.length := by
    rcases Nat.lt_or_ge i ts.length with h | h
    · exact h
    · rw [List.getElem?_eq_none h] at hi; simp at hi
  have hic : i < cs.length := by omega
  rw [t0, o0, hc, List.drop_eq_getElem_cons hic, List.take_succ_cons, List.take_zero] at h0
  refine ⟨cs[i], List.getElem?_eq_getElem hic, ?_⟩
  obtain ⟨ti, kd⟩ := x
  cases kd with
  | int kk => obtain ⟨n, h1, h2⟩ := h0.int hd; exact ⟨n, (List.cons.inj h1).1, h2⟩
  | bool => obtain ⟨b, h1⟩ := h0.bool hd; exact ⟨b, (List.cons.inj h1).1⟩
  | str => obtain ⟨s, h1, h2⟩ := h0.str hd; exact ⟨s, (List.cons.inj h1).1, h2⟩
end Go.Rn
end
section
/- Arguments that are structs, lists of structs. -/
namespace Go.Sg
open Go.Rn Go.RowKit Go.WideShapes Go.ChangeShapes Go.Rec
section
variable {H : Type} {enc : TypeId × Value → H} {P : Program} {w : World}
theorem okWide_sl {t e : TypeId} {r : Reach} {b0 : Nat} {v : Value} (ht : P.underlying t = some (.slice e)) (h : Value.okWide P w r b0 t v) : ∃ d n c, v = .slice d n c := by
  unfold Value.okWide at h
  rw [ht] at h
  simp only [Cell.okWide, ht, Cell.ok] at h
  cases v <;> simp_all

theorem open_flat {t : TypeId} {v : Value} {d : DataW H} {ps : List MemPlace} {held : Bool} {r : Reach} {b0 : Nat} {ts : List (TypeId × FK)} (hF : Flat P t ts) (hval : Value.okWide P w r b0 t v)
    (h : DataW.Trod enc P w 0 (fun _ => true) held t v d ps) : ∃ cs : List Value, v = .agg cs.toArray ∧ cs.length = ts.length ∧ ∀ (i : Nat) (x : TypeId × FK), ts[i]? = some x → ∃ u, cs[i]? = some u ∧ x.2.wf u := by
  unfold Value.okWide at hval
  rw [hF.und] at hval
  obtain ⟨cs, rfl, -, -⟩ := hval
  obtain ⟨fuel, hf⟩ := shp_of_Trod h
  exact ⟨cs.toList, by simp, shp_flat hF hf⟩
theorem open_rows {α : Type} {en : α → List Value} {k : Nat} (hk : EncOk en k) {wfx : α → Prop} {t e : TypeId} {v : Value} {d : DataW H} {ps : List MemPlace} {held : Bool} {r : Reach} {b0 : Nat} (ht : P.underlying t = some (.slice e)) (hs : P.cellsOf e = k)
    (hrow : ∀ fuel cs, Shp P w fuel e cs → ∃ x, cs = en x ∧ wfx x) (hval : Value.okWide P w r b0 t v)
    (h : DataW.Trod enc P w 0 (fun _ => true) held t v d ps) : ∃ l : List α, l.length < 9223372036854775808 ∧ IsL w en k v l ∧ ∀ x ∈ l, wfx x := by
  obtain ⟨a, n, c, rfl⟩ := okWide_sl ht hval
  obtain ⟨fuel, hf⟩ := shp_of_Trod h
  obtain ⟨f, u, m, rows, hv, hm, hr, hrs, hsl⟩ := hf.slice ht hs hk.pos
  have hu : u = .slice a n c := by simpa [Value.cells] using hv.symm
  subst hu
  obtain ⟨l, hl, hw⟩ : ∃ l : List α, rows = l.map en ∧ ∀ x ∈ l, wfx x := by
    clear hr hsl
    induction rows with
    | nil => exact ⟨[], rfl, by simp⟩
    | cons r rs ih =>
      obtain ⟨l, rfl, h2⟩ := ih fun r hr => hrs r (List.mem_cons_of_mem _ hr)
      obtain ⟨x, rfl, hx⟩ := hrow f r (hrs r List.mem_cons_self).2
      exact ⟨x :: l, rfl, fun y hy => by
        rcases List.mem_cons.1 hy with rfl | hy
        · exact hx
        · exact h2 y hy⟩
  subst hl
  have hlm : l.length = m := by simpa using hr
  refine ⟨l, by simp only [maxLen] at hm; omega, ?_, hw⟩
  rw [← hlm] at hsl
  exact hsl
end
end Go.Sg
end
section
/- A tied law's last step: what the listed variables hold; arguments that are texts and bytes. -/
namespace Go.Sg
open Go.Rn Go.RowKit Go.WideShapes Go.ChangeShapes

section
variable {H : Type} {enc : TypeId × Value → H} {P : Program} {w : World}

theorem trod_array {t e : TypeId} {n fuel : Nat} {cs : List Value} {x : DataW H × List MemPlace} {base : Nat} {sp : Nat → Bool} {held : Bool} (ht : P.underlying t = some (.array n e)) (h : DataW.trod enc P w base sp held fuel t cs = some x) :
    ∃ xs f, fuel = f + 1 ∧ x = (.agg (xs.map (·.1)), xs.flatMap (·.2)) ∧ cs.length = P.cellsOf t ∧
      (List.range n).mapM (fun i => DataW.trod enc P w base sp held f e ((cs.drop (i * P.cellsOf e)).take (P.cellsOf e))) = some xs := by
  cases fuel with
  | zero => simp [DataW.trod] at h
  | succ f =>
    unfold DataW.trod at h
    rw [ht] at h
    split at h <;> simp_all
    obtain ⟨hl, xs, hxs, hd⟩ := h
    exact ⟨xs, hd.symm, hxs⟩

theorem ints_of_trod {k : IntKind} {t e : TypeId} {n : Nat} {fuel : Nat} {cs : List Value} {zs : List Int} {p : List MemPlace} {held : Bool} (ht : P.underlying t = some (.array n e)) (he : P.underlying e = some (.int k)) (hc : P.cellsOf e = 1) (hn : zs.length = n) (hct : P.cellsOf t = n)
    (h : DataW.trod enc P w 0 (fun _ => true) held fuel t cs = some (.agg (zs.map fun z => .lit (.int k z)), p)) : cs = zs.map fun z => Value.int k z := by
  obtain ⟨xs, f, rfl, hx0, hl, hxs⟩ := trod_array ht h
  have hd : zs.map (fun z => DataW.lit (.int k z)) = xs.map (·.1) := by
    have := congrArg Prod.fst hx0
    simpa using this
  clear h hx0
  rw [hct] at hl
  · have hlen := mapM_some_length hxs
    apply List.ext_getElem
    · simp [hl, hn]
    · intro i h1 h2
      have hi : i < n := by omega
      have hx := mapM_some_get hxs i i (by simp [hi])
      have hxi : i < xs.length := by rw [hlen]; simpa using hi
      rw [List.getElem?_eq_getElem hxi] at hx
      have e1 : ((cs.drop (i * P.cellsOf e)).take (P.cellsOf e)) = [cs[i]] := by
        rw [hc, Nat.mul_one, List.drop_eq_getElem_cons h1]; rfl
      rw [e1] at hx
      obtain ⟨m, hm, hm2, -⟩ := DataW.trod_int he hx
      have hm' : cs[i] = .int k m := by simpa using hm
      have hd' := congrArg (fun l => l[i]?) hd
      simp only [List.getElem?_map, List.getElem?_eq_getElem hxi, Option.map_some] at hd'
      have hz : i < zs.length := by omega
      rw [List.getElem?_eq_getElem hz] at hd'
      simp only [Option.map_some, Option.some.injEq] at hd'
      rw [hm2] at hd'
      simp only [DataW.lit.injEq, Lit.int.injEq, true_and] at hd'
      rw [hm']; simp [hd']

theorem row_of_laid {k : IntKind} {n : String} {g : Nat} {t e : TypeId} {m : Nat} {zs : List Int} {l : List (String × DataW Unit)} (hL : laidMetH P l w) (hp : (l.all fun x => x.2.handleName?.isNone) = true) (hm : (n, DataW.agg (zs.map fun z => .lit (.int k z))) ∈ l)
    (hg : P.globalNamed n = some g) (hgt : (P.globals[g]?).map (·.type) = some t) (ht : P.underlying t = some (.array m e)) (he : P.underlying e = some (.int k)) (hc : P.cellsOf e = 1) (hn : zs.length = m) (hct : P.cellsOf t = m) :
    Row w g 0 (zs.map fun z => .int k z) := by
  rw [Go.MakeChecks.laidMetH_plain _ _ _ hp] at hL
  obtain ⟨ps, hv, -⟩ := hL
  have key : ∀ (l : List (String × DataW Unit)) (ps : List MemPlace), DataW.LaidVars P w l ps → (n, DataW.agg (zs.map fun z => .lit (.int k z))) ∈ l → ∃ cs, w.var? P n = some cs ∧ cs.toList = zs.map fun z => .int k z := by
    intro l
    induction l with
    | nil => intro ps _ h; simp at h
    | cons x r ih =>
      intro ps hv h
      obtain ⟨n', d'⟩ := x
      obtain ⟨g', t', cs, fuel, p, q, h1, h2, h3, h4, h5, -⟩ := hv
      rcases List.mem_cons.1 h with h | h
      · injection h with ha hb
        subst ha; subst hb
        rw [hg] at h1; injection h1 with h1; subst h1
        rw [hgt] at h2; injection h2 with h2; subst h2
        exact ⟨cs, h3, ints_of_trod ht he hc hn hct h4⟩
      · exact ih q h5 h
  obtain ⟨cs, h1, h2⟩ := key l ps hv hm
  intro i v hi
  rw [Nat.zero_add, World.var?_cell hg h1 i, ← h2] at *
  simpa using hi

theorem okWide_slice {t e : TypeId} {r : Reach} {b0 : Nat} {v : Value} (ht : P.underlying t = some (.slice e)) (h : Value.okWide P w r b0 t v) : ∃ d n c, v = .slice d n c := by
  unfold Value.okWide at h
  rw [ht] at h
  simp only [Cell.okWide, ht, Cell.ok] at h
  cases v <;> simp_all

theorem open_bytes {t e : TypeId} {v : Value} {d : DataW H} {ps : List MemPlace} {held : Bool} {r : Reach} {b0 : Nat} (ht : P.underlying t = some (.slice e)) (he : P.underlying e = some (.int .u8)) (hs : P.cellsOf e = 1) (hval : Value.okWide P w r b0 t v)
    (h : DataW.Trod enc P w 0 (fun _ => true) held t v d ps) : ∃ l : List UInt8, l.length ≤ maxLen ∧ IsSl w 1 v l.length (bytesV l) := by
  obtain ⟨a, n, c, rfl⟩ := okWide_slice ht hval
  obtain ⟨fuel, hf⟩ := shp_of_Trod h
  obtain ⟨v, l, hv, hl, hsl⟩ := hf.bytes ht he hs
  have : v = .slice a n c := by simpa [Value.cells] using hv.symm
  subst this
  exact ⟨l, hl, hsl⟩
end
end Go.Sg
end
section
/- What the listed variables hold. -/
namespace Go.Sg
open Go.Rn Go.Sha Go.Proofs
theorem start_of_laid {n : String} {W : World} {l : List (String × DataW Unit)} (hg : Tryd.prog.globalNamed n = some 0) (hp : (l.all fun x => x.2.handleName?.isNone) = true) (hm : (n, DataW.agg ((init8.l.map fun x => (x.toNat : Int)).map fun z => .lit (.int .u32 z))) ∈ l) (h : laidMetH Tryd.prog l W) : Row W 0 0 (vals init8.l) := by
  have := row_of_laid h hp hm hg (by kernel_rfl) Tryd.underlying91 Tryd.underlying90 (by kernel_rfl) rfl (by kernel_rfl)
  rw [List.map_map] at this
  exact this
theorem numbers_of_laid {n : String} {W : World} {l : List (String × DataW Unit)} (hg : Tryd.prog.globalNamed n = some 1) (hp : (l.all fun x => x.2.handleName?.isNone) = true) (hm : (n, DataW.agg ((kTab.map fun x => (x.toNat : Int)).map fun z => .lit (.int .u32 z))) ∈ l) (h : laidMetH Tryd.prog l W) : Row W 1 0 (vals kTab) := by
  have := row_of_laid h hp hm hg (by kernel_rfl) Tryd.underlying116 Tryd.underlying90 (by kernel_rfl) rfl (by kernel_rfl)
  rw [List.map_map] at this
  exact this
end Go.Sg
end
section
/- Arguments that are structs. -/
namespace Go.Sg
open Go.Rn Go.RowKit Go.WideShapes Go.ChangeShapes
section
variable {H : Type} {enc : TypeId × Value → H} {P : Program} {w : World}
theorem open_struct {t : TypeId} {v : Value} {d : DataW H} {ps : List MemPlace} {held : Bool} {r : Reach} {b0 : Nat} (ht : P.underlying t = some (.struct (P.fieldsOf t))) (hval : Value.okWide P w r b0 t v)
    (h : DataW.Trod enc P w 0 (fun _ => true) held t v d ps) : ∃ fuel cs, v = .agg cs.toArray ∧ Shp P w fuel t cs := by
  unfold Value.okWide at hval
  rw [ht] at hval
  obtain ⟨cs, rfl, -, -⟩ := hval
  obtain ⟨fuel, hf⟩ := shp_of_Trod h
  exact ⟨fuel, cs.toList, by simp, hf⟩
theorem shp_two {t ti : TypeId} (h : TwoInts P t ti) (hc : P.cellsOf t = 2) (hi : P.cellsOf ti = 1) {fuel : Nat} {cs : List Value} (hs : Shp P w fuel t cs) :
    ∃ a b, cs = [.int .i64 a, .int .i64 b] ∧ (Lit.int .i64 a).wf = true ∧ (Lit.int .i64 b).wf = true := by
  obtain ⟨hl, f, hs⟩ := hs.struct h.und
  have hf := h.fields
  generalize (P.fieldsOf t).toList = fs at hf hs
  obtain ⟨f0, f1, rfl⟩ : ∃ f0 f1, fs = [f0, f1] := by
    rcases fs with _ | ⟨f0, _ | ⟨f1, _ | ⟨f2, r⟩⟩⟩
    · simp at hf
    · simp at hf
    · exact ⟨f0, f1, rfl⟩
    · simp at hf
  simp only [List.map_cons, List.map_nil, List.cons.injEq, Prod.mk.injEq, and_true] at hf
  obtain ⟨⟨-, t0, o0⟩, -, t1, o1⟩ := hf
  have h0 := hs f0 (by simp)
  have h1 := hs f1 (by simp)
  rw [t0, o0, hi] at h0
  rw [t1, o1, hi] at h1
  obtain ⟨a, e0, w0⟩ := h0.int h.int
  obtain ⟨b, e1, w1⟩ := h1.int h.int
  rw [hc] at hl
  match cs, hl with
  | [x, y], _ =>
    simp at e0 e1
    exact ⟨a, b, by rw [e0, e1], w0, w1⟩
theorem open_two {t ti : TypeId} (h : TwoInts P t ti) (hc : P.cellsOf t = 2) (hi : P.cellsOf ti = 1) {v : Value} {d : DataW H} {ps : List MemPlace} {held : Bool} {r : Reach} {b0 : Nat} (hval : Value.okWide P w r b0 t v)
    (h' : DataW.Trod enc P w 0 (fun _ => true) held t v d ps) : ∃ a b, v = .agg #[.int .i64 a, .int .i64 b] ∧ (Lit.int .i64 a).wf = true ∧ (Lit.int .i64 b).wf = true := by
  obtain ⟨fuel, cs, rfl, hs⟩ := open_struct h.und hval h'
  obtain ⟨a, b, rfl, h1, h2⟩ := shp_two h hc hi hs
  exact ⟨a, b, rfl, h1, h2⟩
end
end Go.Sg
end
section
/- Deeds: arguments. -/
namespace Go.Dee
open Go.Rn Go.RowKit Go.Rec Go.Sha Go.Sg
theorem bytes_of_get : ∀ (cs : List Value), (∀ i, i < cs.length → ∃ b : UInt8, cs[i]? = some (.int .u8 (b.toNat : Int))) → ∃ l : List UInt8, cs = bytesV l
  | [], _ => ⟨[], rfl⟩
  | c :: cs, h => by
    obtain ⟨b, hb⟩ := h 0 (by simp)
    simp only [List.getElem?_cons_zero, Option.some.injEq] at hb
    obtain ⟨l, rfl⟩ := bytes_of_get cs fun i hi => by
      have := h (i + 1) (by simpa using hi)
      simpa using this
    exact ⟨b :: l, by rw [hb]; rfl⟩
theorem drop_split (cs : List Value) (a b : Nat) : cs.drop a = (cs.drop a).take b ++ cs.drop (a + b) := by
  rw [← List.drop_drop, List.take_append_drop]
end Go.Dee
namespace Go.Sg
open Go.Rn Go.Proofs Go.Dee Go.Rec Go.RowKit Go.WideShapes Go.ChangeShapes Go.Sha
theorem shp_rowsD {P : Program} {w : World} {α : Type} {en : α → List Value} {k : Nat} (hk : EncOk en k) {wfx : α → Prop} {t e : TypeId} {fuel : Nat} {cs : List Value} (ht : P.underlying t = some (.slice e)) (hs : P.cellsOf e = k)
    (hrow : ∀ fuel cs, Shp P w fuel e cs → ∃ x, cs = en x ∧ wfx x) (hf : Shp P w fuel t cs) : ∃ u, ∃ l : List α, cs = [u] ∧ l.length < 9223372036854775808 ∧ IsL w en k u l ∧ ∀ x ∈ l, wfx x := by
  obtain ⟨f, u, m, rows, hv, hm, hr, hrs, hsl⟩ := hf.slice ht hs hk.pos
  obtain ⟨l, hl, hw⟩ : ∃ l : List α, rows = l.map en ∧ ∀ x ∈ l, wfx x := by
    clear hr hsl
    induction rows with
    | nil => exact ⟨[], rfl, by simp⟩
    | cons r rs ih =>
      obtain ⟨l, rfl, h2⟩ := ih fun r hr => hrs r (List.mem_cons_of_mem _ hr)
      obtain ⟨x, rfl, hx⟩ := hrow f r (hrs r List.mem_cons_self).2
      exact ⟨x :: l, rfl, fun y hy => by
        rcases List.mem_cons.1 hy with rfl | hy
        · exact hx
        · exact h2 y hy⟩
  subst hl
  have hlm : l.length = m := by simpa using hr
  refine ⟨u, l, hv, by simp only [maxLen] at hm; omega, ?_, hw⟩
  rw [← hlm] at hsl
  exact hsl
section
variable {H : Type} {enc : TypeId × Value → H} {w : World}
set_option maxRecDepth 4000 in
theorem dig_row (fuel : Nat) (cs : List Value) (h : Shp Tryd.prog w fuel 23 cs) : ∃ x : Dg, cs = digC x ∧ True := by
  obtain ⟨hl, f, hs⟩ := h.array (by kernel_rfl : Tryd.prog.underlying 23 = some (.array 32 5))
  have h1 : Tryd.prog.cellsOf 23 = 32 := by kernel_rfl
  have h2 : Tryd.prog.cellsOf 5 = 1 := by kernel_rfl
  rw [h1] at hl
  obtain ⟨l, hb⟩ := bytes_of_get cs fun i hi => by
    have hi' : i < 32 := by omega
    have := hs i hi'
    rw [h2, Nat.mul_one] at this
    obtain ⟨n, e, hn⟩ := this.int Tryd.underlying5
    obtain ⟨b0, b1⟩ := u8_of_wf hn
    have e2 := congrArg (·[0]?) e
    simp only [List.getElem?_take, List.getElem?_drop, Nat.add_zero, List.getElem?_cons_zero] at e2
    refine ⟨UInt8.ofNat n.toNat, ?_⟩
    rw [if_pos (by omega)] at e2
    rw [e2]
    congr 2
    simp; omega
  subst hb
  rw [bytesV_length] at hl
  exact ⟨⟨l, hl⟩, (digC_eq ⟨l, hl⟩).symm, trivial⟩
set_option maxRecDepth 4000 in
theorem deed_row (fuel : Nat) (cs : List Value) (h : Shp Tryd.prog w fuel 29 cs) : ∃ x : Dr, cs = x.cells ∧ (WfD x.d ∧ x.d.seen.length < 9223372036854775808 ∧ x.d.data.length < 9223372036854775808 ∧ HoldR w x) := by
  obtain ⟨hl, f, hs⟩ := h.struct (by kernel_rfl : Tryd.prog.underlying 29 = some (.struct (Tryd.prog.fieldsOf 29)))
  have hf : (Tryd.prog.fieldsOf 29).toList.map (fun f => (f.type, f.offset)) = [(3, 0), (3, 1), (3, 2), (23, 3), (24, 35), (25, 36), (27, 37)] := by kernel_rfl
  have hc : Tryd.prog.cellsOf 29 = 39 := by kernel_rfl
  have hi : Tryd.prog.cellsOf 3 = 1 := by kernel_rfl
  have hg : Tryd.prog.cellsOf 23 = 32 := by kernel_rfl
  have hsl : Tryd.prog.cellsOf 24 = 1 := by kernel_rfl
  have hbl : Tryd.prog.cellsOf 25 = 1 := by kernel_rfl
  have hsg : Tryd.prog.cellsOf 27 = 2 := by kernel_rfl
  generalize (Tryd.prog.fieldsOf 29).toList = fs at hf hs
  obtain ⟨f0, f1, f2, f3, f4, f5, f6, rfl⟩ : ∃ f0 f1 f2 f3 f4 f5 f6, fs = [f0, f1, f2, f3, f4, f5, f6] := by
    rcases fs with _ | ⟨f0, _ | ⟨f1, _ | ⟨f2, _ | ⟨f3, _ | ⟨f4, _ | ⟨f5, _ | ⟨f6, _ | ⟨f7, r⟩⟩⟩⟩⟩⟩⟩⟩
    all_goals first | exact ⟨_, _, _, _, _, _, _, rfl⟩ | simp at hf
  simp only [List.map_cons, List.map_nil, List.cons.injEq, Prod.mk.injEq, and_true] at hf
  obtain ⟨⟨t0, o0⟩, ⟨t1, o1⟩, ⟨t2, o2⟩, ⟨t3, o3⟩, ⟨t4, o4⟩, ⟨t5, o5⟩, t6, o6⟩ := hf
  have h0 := hs f0 (by simp)
  have h1 := hs f1 (by simp)
  have h2 := hs f2 (by simp)
  have h3 := hs f3 (by simp)
  have h4 := hs f4 (by simp)
  have h5 := hs f5 (by simp)
  have h6 := hs f6 (by simp)
  rw [t0, o0, hi] at h0
  rw [t1, o1, hi] at h1
  rw [t2, o2, hi] at h2
  rw [t3, o3, hg] at h3
  rw [t4, o4, hsl] at h4
  rw [t5, o5, hbl] at h5
  rw [t6, o6, hsg] at h6
  obtain ⟨a0, e0, w0⟩ := h0.int Tryd.underlying3
  obtain ⟨a1, e1, w1⟩ := h1.int Tryd.underlying3
  obtain ⟨a2, e2, w2⟩ := h2.int Tryd.underlying3
  obtain ⟨g, e3, -⟩ := dig_row _ _ h3
  obtain ⟨u, sn, e4, l4, L4, -⟩ := shp_rowsD encG Tryd.underlying24 hg dig_row h4
  obtain ⟨v, l, e5, l5, L5⟩ := h5.bytes Tryd.underlying25 Tryd.underlying5 (by kernel_rfl)
  obtain ⟨E, S, e6, wE, wS⟩ := shp_two sigTwo hsg hi h6
  obtain ⟨ua, uc, rfl⟩ := isSl_slice L4
  obtain ⟨va, vc, rfl⟩ := isSl_slice L5
  refine ⟨⟨⟨a0, a1, a2, g, sn, l, E, S⟩, ua, uc, va, vc⟩, ?_, ⟨i64_of_wf w0, i64_of_wf w1, i64_of_wf w2, i64_of_wf wE, i64_of_wf wS⟩, l4, by simp only [maxLen] at l5; show l.length < _; omega, L4, L5⟩
  have c0 := drop_split cs 0 1
  have c1 := drop_split cs 1 1
  have c2 := drop_split cs 2 1
  have c3 := drop_split cs 3 32
  have c4 := drop_split cs 35 1
  have c5 := drop_split cs 36 1
  have c6 := drop_split cs 37 2
  have c7 : cs.drop 39 = [] := List.drop_eq_nil_iff.2 (by omega)
  rw [List.drop_zero] at c0 e0
  rw [c0, e0, c1, e1, c2, e2, c3, e3, c4, e4, c5, e5, c6, e6, c7]
  rfl
set_option maxRecDepth 4000 in
theorem deed_open {v : Value} {d : DataW H} {ps : List MemPlace} {held : Bool} {r : Reach} {b0 : Nat} (hval : Value.okWide Tryd.prog w r b0 29 v)
    (h : DataW.Trod enc Tryd.prog w 0 (fun _ => true) held 29 v d ps) : ∃ x : Dr, v = .agg x.cells.toArray ∧ (WfD x.d ∧ x.d.seen.length < 9223372036854775808 ∧ x.d.data.length < 9223372036854775808 ∧ HoldR w x) := by
  obtain ⟨fuel, cs, rfl, hs⟩ := open_struct (by kernel_rfl) hval h
  obtain ⟨x, rfl, h1⟩ := deed_row _ _ hs
  exact ⟨x, rfl, h1⟩
set_option maxRecDepth 4000 in
theorem deeds_open {v : Value} {d : DataW H} {ps : List MemPlace} {held : Bool} {r : Reach} {b0 : Nat} (hval : Value.okWide Tryd.prog w r b0 47 v)
    (h : DataW.Trod enc Tryd.prog w 0 (fun _ => true) held 47 v d ps) : ∃ l : List Dr, (l.length < 9223372036854775808 ∧ ∀ x ∈ l, WfD x.d ∧ x.d.seen.length < 9223372036854775808 ∧ x.d.data.length < 9223372036854775808 ∧ HoldR w x) ∧ LDr w v l := by
  obtain ⟨l, h1, h2, h3⟩ := open_rows encR Tryd.underlying47 (by kernel_rfl) deed_row hval h
  exact ⟨l, ⟨h1, h3⟩, h2⟩
end
end Go.Sg
end
section
/- Deeds: keys as arguments; logs for the laws. -/
namespace Go.Sg
open Go.Rn Go.Proofs Go.Dee Go.Rec Go.RowKit Go.WideShapes Go.ChangeShapes Go.Sha
theorem WfX.up {w w' : World} {x : Dr} (h : WfX w x) (e : Ext w w') : WfX w' x := ⟨h.1, h.2.1, h.2.2.1, h.2.2.2.up e⟩
section
variable {H : Type} {enc : TypeId × Value → H} {w : World}
set_option maxRecDepth 4000 in
theorem int_row (fuel : Nat) (cs : List Value) (h : Shp Tryd.prog w fuel 3 cs) : ∃ x : Int, cs = intC' x ∧ (-9223372036854775808 ≤ x ∧ x < 9223372036854775808) := by
  obtain ⟨a, e, wf⟩ := h.int Tryd.underlying3
  exact ⟨a, e, i64_of_wf wf⟩
set_option maxRecDepth 4000 in
theorem keys_open {v : Value} {d : DataW H} {ps : List MemPlace} {held : Bool} {r : Reach} {b0 : Nat} (hval : Value.okWide Tryd.prog w r b0 43 v)
    (h : DataW.Trod enc Tryd.prog w 0 (fun _ => true) held 43 v d ps) : ∃ l : List Int, (l.length < 9223372036854775808 ∧ KsI l) ∧ LIn w v l := by
  obtain ⟨l, h1, h2, h3⟩ := open_rows encIn Tryd.underlying43 (by kernel_rfl) int_row hval h
  exact ⟨l, ⟨h1, h3⟩, h2⟩
end
end Go.Sg
namespace Go.Dee
open Go.Rn Go.Sg
theorem chk_zero {ks : List Int} {l : List Deed} (h : chkE ks l = 0) : keysD ks = true ∧ l.length ≤ 4096 ∧ logD ks l = true := by
  unfold chkE at h
  split at h
  · rename_i hk
    split at h
    · cases h
    · split at h
      · rename_i h1 h2; exact ⟨hk, by omega, h2⟩
      · cases h
  · cases h
theorem chk_good {ks : List Int} {l : List Deed} (h1 : keysD ks = true) (h2 : l.length ≤ 4096) (h3 : logD ks l = true) : chkE ks l = 0 := by
  rw [chk_of h1 h2, h3]; rfl
/-- In a log, a deed has a greater number than those of its person before it. -/
theorem log_less {ks : List Int} {l : List Deed} (h : logD ks l = true) {i j : Nat} {x d : Deed} (hd : l[i]? = some d) (hx : l[j]? = some x) (hj : j < i) (hp : x.person = d.person) : x.no < d.no := by
  have h1 := (stepD_inv (logD_iff.1 h i d hd)).2.1
  have h2 := log_no (logD_take h i) x (List.mem_of_getElem? (i := j) (by rw [List.getElem?_take_of_lt hj]; exact hx))
  rw [hp] at h2; omega
end Go.Dee
end
