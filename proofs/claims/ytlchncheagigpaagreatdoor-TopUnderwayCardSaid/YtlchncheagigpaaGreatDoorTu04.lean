/- Parts of this project: Au, LastS, LibI, RecOps, AppF, Chan, Grp, IterS, LoopD, ApE, MakL. -/
import Derived.Test.YtlchncheagigpaaGreatDoorTu03
import Derived.Test.YtlchncheagigpaaGreatDoorTu02
import Derived.Lib.AppendZerosOnto
import Derived.Lib.Overlaps
import Derived.Conc.LoneCalls
set_option maxHeartbeats 32000000
set_option linter.unusedSimpArgs false
set_option linter.unusedVariables false
set_option linter.unusedSectionVars false
section
set_option maxRecDepth 4000
namespace Go.Sg
open Go.Rn Go.Proofs Go.RowKit
section
theorem en {g : FuncId} {fn : Func} {args : List Value} {R : Value → World → Prop} {X : List PanicEntry → World → Prop} {w : World} {code : Code} {env : Env} (hf : Tryz.prog.funcs[g]? = some fn) (nt : Nat)
    (h : Tryz.prog.funcs[g]? = some fn → RunE Tryz.prog ⟨g, .normal, none⟩ nt [] [.code code] (FnQ Tryz.prog g R X) env w)
    (hname : (fn.name == "runtime.NumGoroutine") = false := by kernel_rfl) (hb : fn.body = some code := by exact rfl) (hn : fn.ntmps = nt := by exact rfl) (hle : args.length ≤ nt := by simp) (henv : argEnv 0 args = env := by simp only [Go.Rn.argEnv]; rfl) : RetsX Tryz.prog g args w R X :=
  RetsX.of hf hname hb hn hle henv (h hf)
variable {G H : Prop}
structure Kp (H : Prop) : Prop where
  h : H
theorem g (h : H) (k : Kp H → G := by intro h_; (repeat (first | ((with_reducible refine Go.Rn.RunLN.id ?_); first | with_reducible refine Go.Rn.RunLN.boolT rfl ?_ | with_reducible refine Go.Rn.RunLN.boolF rfl ?_ | (with_reducible refine Go.Rn.RunLN.chk ?_; refine Go.Rn.RunLN.int (by (first | (refine Go.Rn.wr_i64 ?_ ?_; omega; omega) | (refine Go.Rn.wm_i64 ?_; omega) | (refine Go.Rn.wq_i64 ?_ ?_ ?_; omega; omega; omega) | rfl)) ?_) | with_reducible refine Go.Rn.RunLN.anyX rfl ?_ | refine Go.Rn.RunLN.boolT (by assumption) ?_ | refine Go.Rn.RunLN.boolF (by assumption) ?_ | with_reducible refine Go.Rn.RunLN.eqT rfl ?_ | with_reducible refine Go.Rn.RunLN.neF rfl ?_ | (with_reducible refine Go.Rn.RunLN.decT ?_ ?_; focus omega) | (with_reducible refine Go.Rn.RunLN.decF ?_ ?_; focus omega) | (with_reducible refine Go.Rn.RunLN.eqT ?_ ?_; focus omega) | (with_reducible refine Go.Rn.RunLN.eqF ?_ ?_; focus omega) | (with_reducible refine Go.Rn.RunLN.neT ?_ ?_; focus omega) | (with_reducible refine Go.Rn.RunLN.neF ?_ ?_; focus omega) | refine Go.Rn.RunLN.boolT (by exact rfl) ?_ | refine Go.Rn.RunLN.boolF (by exact rfl) ?_ | refine Go.Rn.RunLN.any ?_) | ((with_reducible refine Go.Rn.RunL.id ?_); first | refine Go.Rn.RunL.many Tryz.tOk rfl ?_ | refine Go.Rn.RunL.ev Tryz.tOk rfl rfl rfl ?_ | refine Go.Rn.RunL.unwantedD rfl rfl ?_ | refine Go.Rn.RunL.evV rfl rfl rfl (Go.Rn.OpV.load1 Tryz.tOk rfl rfl rfl (Go.Sg.ldB (by assumption) (by exact rfl) Go.Sg.xt)) ?_ | refine Go.Sg.pfN rfl rfl rfl ?_ | refine Go.Sg.pvN rfl rfl rfl rfl rfl (by infer_instance) ?_ | refine Go.Rn.RunL.evV rfl rfl rfl (Go.Sg.eqf rfl rfl (by infer_instance)) ?_ | refine Go.Rn.RunL.evV rfl rfl rfl (Go.Rn.OpV.loadQ Tryz.tOk rfl rfl rfl (Go.Sg.ldN (by assumption) Go.Sg.xt) (by exact rfl)) ?_ | refine Go.Rn.RunL.evV rfl rfl rfl (Go.Rn.OpV.load1 Tryz.tOk rfl rfl rfl (Go.Sg.ldR0 (by assumption) Go.Sg.xt)) ?_ | refine Go.Rn.RunL.evV rfl rfl rfl (Go.Rn.OpV.load1 Tryz.tOk rfl rfl rfl (Go.Sg.ldR (by assumption) (by exact rfl) Go.Sg.xt)) ?_ | refine Go.Rn.RunL.evV rfl rfl rfl (Go.Rn.OpV.loadQ Tryz.tOk rfl rfl rfl (Go.Sg.ldRN (by assumption) Go.Sg.xt) (by exact rfl)) ?_ | refine Go.Rn.RunL.evV rfl rfl rfl (Go.Rn.OpV.lenSl Tryz.tOk rfl rfl (by assumption)) ?_ | refine Go.Rn.RunL.evV rfl rfl rfl (Go.Rn.OpV.indexS Tryz.tOk _ rfl rfl rfl rfl (by omega)) ?_ | refine Go.Rn.RunL.evV rfl rfl rfl (Go.Sg.lk2s rfl rfl (by assumption) Go.Sg.xt (by infer_instance) (by infer_instance) (by assumption)) ?_ | refine Go.Rn.RunL.evV rfl rfl rfl (Go.Sg.lk2n rfl rfl (by assumption) Go.Sg.xt (by infer_instance) (by infer_instance) (by assumption)) ?_ | refine Go.Rn.RunL.evV rfl rfl rfl (Go.Sg.lk2 rfl rfl (by assumption) Go.Sg.xt (by infer_instance) (by infer_instance)) ?_ | refine Go.Rn.RunL.evV rfl rfl rfl (Go.Sg.lk1s rfl rfl (by assumption) Go.Sg.xt (by infer_instance) (by infer_instance) (by assumption)) ?_ | refine Go.Rn.RunL.evV rfl rfl rfl (Go.Sg.lk1n rfl rfl (by assumption) Go.Sg.xt (by infer_instance) (by infer_instance) (by assumption)) ?_ | refine Go.Rn.RunL.evV rfl rfl rfl (Go.Sg.lk1 rfl rfl (by assumption) Go.Sg.xt (by infer_instance) (by infer_instance)) ?_ | refine Go.Rn.RunL.evV rfl rfl rfl (Go.Rn.OpV.quo Tryz.tOk rfl rfl (by omega) (by omega) (by omega)) ?_ | refine Go.Rn.RunL.unwantedN rfl ?_ | refine Go.Rn.RunL.nil ?_) | refine Go.Rn.RunE.condT rfl rfl ?_ | refine Go.Rn.RunE.condF rfl rfl ?_ | refine Go.Rn.RunE.seq ?_ | refine Go.Rn.RunE.region ?_ | refine Go.Rn.RunE.block ?_ | refine Go.Rn.RunE.inBlock ?_ | refine Go.Rn.RunE.skip ?_ | refine Go.Rn.RunE.exit rfl ?_ | refine Go.Rn.RunE.scope ?_ | refine Go.Rn.RunE.inScope ?_ | refine Go.Rn.RunE.label ?_)); exact h_.h) : G := k ⟨h⟩
theorem ga (h : H) (k : Kp H → G := by intro h_; (repeat (first | ((with_reducible refine Go.Rn.AsyN.id ?_); first | with_reducible refine Go.Rn.AsyN.boolT rfl ?_ | with_reducible refine Go.Rn.AsyN.boolF rfl ?_ | (with_reducible refine Go.Rn.AsyN.chk ?_; refine Go.Rn.AsyN.int (by (first | (refine Go.Rn.wr_i64 ?_ ?_; omega; omega) | (refine Go.Rn.wm_i64 ?_; omega) | (refine Go.Rn.wq_i64 ?_ ?_ ?_; omega; omega; omega) | rfl)) ?_) | with_reducible refine Go.Rn.AsyN.anyX rfl ?_ | refine Go.Rn.AsyN.boolT (by assumption) ?_ | refine Go.Rn.AsyN.boolF (by assumption) ?_ | with_reducible refine Go.Rn.AsyN.eqT rfl ?_ | with_reducible refine Go.Rn.AsyN.neF rfl ?_ | (with_reducible refine Go.Rn.AsyN.decT ?_ ?_; focus omega) | (with_reducible refine Go.Rn.AsyN.decF ?_ ?_; focus omega) | (with_reducible refine Go.Rn.AsyN.eqT ?_ ?_; focus omega) | (with_reducible refine Go.Rn.AsyN.eqF ?_ ?_; focus omega) | (with_reducible refine Go.Rn.AsyN.neT ?_ ?_; focus omega) | (with_reducible refine Go.Rn.AsyN.neF ?_ ?_; focus omega) | refine Go.Rn.AsyN.boolT (by exact rfl) ?_ | refine Go.Rn.AsyN.boolF (by exact rfl) ?_ | ((fail_if_success refine Go.Rn.AsyN.isB ?_); refine Go.Rn.AsyN.any ?_)) | ((with_reducible refine Go.Rn.Asy.id ?_); first | refine Go.Rn.Asy.ev Tryz.tOk rfl rfl rfl ?_ | refine Go.Rn.Asy.unwantedD rfl rfl rfl ?_ | refine Go.Rn.Asy.evV rfl rfl rfl rfl (fun _ X_ => Go.Rn.OpV.load1 Tryz.tOk rfl rfl rfl (Go.Sg.ldS (by assumption) (by exact rfl) X_)) ?_ | refine Go.Rn.Asy.evV rfl rfl rfl rfl (fun _ X_ => Go.Rn.OpV.loadQ Tryz.tOk rfl rfl rfl (Go.Sg.ldNS (by assumption) X_) (by exact rfl)) ?_ | refine Go.Rn.Asy.evV rfl rfl rfl rfl (fun _ X_ => Go.Sg.lk1S rfl rfl (by assumption) X_ (by infer_instance) (by infer_instance)) ?_ | refine Go.Rn.Asy.evV rfl rfl rfl rfl (fun _ X_ => Go.Rn.OpV.load1 Tryz.tOk rfl rfl rfl (Go.Sg.ldB (by assumption) (by exact rfl) Go.Sg.xt)) ?_ | refine Go.Sg.pfA rfl rfl rfl ?_ | refine Go.Sg.pfX rfl rfl rfl ?_ | refine Go.Sg.pvA rfl rfl rfl rfl rfl (by infer_instance) ?_ | refine Go.Rn.Asy.evV rfl rfl rfl rfl (fun _ X_ => Go.Sg.eqf rfl rfl (by infer_instance)) ?_ | refine Go.Rn.Asy.evV rfl rfl rfl rfl (fun _ X_ => Go.Rn.OpV.loadQ Tryz.tOk rfl rfl rfl (Go.Sg.ldN (by assumption) Go.Sg.xt) (by exact rfl)) ?_ | refine Go.Rn.Asy.evV rfl rfl rfl rfl (fun _ X_ => Go.Rn.OpV.load1 Tryz.tOk rfl rfl rfl (Go.Sg.ldR0 (by assumption) Go.Sg.xt)) ?_ | refine Go.Rn.Asy.evV rfl rfl rfl rfl (fun _ X_ => Go.Rn.OpV.load1 Tryz.tOk rfl rfl rfl (Go.Sg.ldR (by assumption) (by exact rfl) Go.Sg.xt)) ?_ | refine Go.Rn.Asy.evV rfl rfl rfl rfl (fun _ X_ => Go.Rn.OpV.loadQ Tryz.tOk rfl rfl rfl (Go.Sg.ldRN (by assumption) Go.Sg.xt) (by exact rfl)) ?_ | refine Go.Rn.Asy.evV rfl rfl rfl rfl (fun _ X_ => Go.Rn.OpV.lenSl Tryz.tOk rfl rfl (by assumption)) ?_ | refine Go.Rn.Asy.evV rfl rfl rfl rfl (fun _ X_ => Go.Rn.OpV.indexS Tryz.tOk _ rfl rfl rfl rfl (by omega)) ?_ | refine Go.Rn.Asy.evV rfl rfl rfl rfl (fun _ X_ => Go.Sg.lk2s rfl rfl (by assumption) Go.Sg.xt (by infer_instance) (by infer_instance) (by assumption)) ?_ | refine Go.Rn.Asy.evV rfl rfl rfl rfl (fun _ X_ => Go.Sg.lk2n rfl rfl (by assumption) Go.Sg.xt (by infer_instance) (by infer_instance) (by assumption)) ?_ | refine Go.Rn.Asy.evV rfl rfl rfl rfl (fun _ X_ => Go.Sg.lk2 rfl rfl (by assumption) Go.Sg.xt (by infer_instance) (by infer_instance)) ?_ | refine Go.Rn.Asy.evV rfl rfl rfl rfl (fun _ X_ => Go.Sg.lk1s rfl rfl (by assumption) Go.Sg.xt (by infer_instance) (by infer_instance) (by assumption)) ?_ | refine Go.Rn.Asy.evV rfl rfl rfl rfl (fun _ X_ => Go.Sg.lk1n rfl rfl (by assumption) Go.Sg.xt (by infer_instance) (by infer_instance) (by assumption)) ?_ | refine Go.Rn.Asy.evV rfl rfl rfl rfl (fun _ X_ => Go.Sg.lk1 rfl rfl (by assumption) Go.Sg.xt (by infer_instance) (by infer_instance)) ?_ | refine Go.Rn.Asy.evV rfl rfl rfl rfl (fun _ X_ => Go.Rn.OpV.quo Tryz.tOk rfl rfl (by omega) (by omega) (by omega)) ?_))); exact h_.h) : G := k ⟨h⟩
theorem gs {m : Bool} {H1 H2 : Prop} (h1 : m = true → H1) (h2 : m = false → H2) (k : (m = true → H1) → (m = false → H2) → G := by intro h1_ h2_; (repeat (first | ((with_reducible refine Go.Rn.RunLN.id ?_); first | with_reducible refine Go.Rn.RunLN.boolT rfl ?_ | with_reducible refine Go.Rn.RunLN.boolF rfl ?_ | (with_reducible refine Go.Rn.RunLN.chk ?_; refine Go.Rn.RunLN.int (by (first | (refine Go.Rn.wr_i64 ?_ ?_; omega; omega) | (refine Go.Rn.wm_i64 ?_; omega) | (refine Go.Rn.wq_i64 ?_ ?_ ?_; omega; omega; omega) | rfl)) ?_) | with_reducible refine Go.Rn.RunLN.anyX rfl ?_ | refine Go.Rn.RunLN.boolT (by assumption) ?_ | refine Go.Rn.RunLN.boolF (by assumption) ?_ | with_reducible refine Go.Rn.RunLN.eqT rfl ?_ | with_reducible refine Go.Rn.RunLN.neF rfl ?_ | (with_reducible refine Go.Rn.RunLN.decT ?_ ?_; focus omega) | (with_reducible refine Go.Rn.RunLN.decF ?_ ?_; focus omega) | (with_reducible refine Go.Rn.RunLN.eqT ?_ ?_; focus omega) | (with_reducible refine Go.Rn.RunLN.eqF ?_ ?_; focus omega) | (with_reducible refine Go.Rn.RunLN.neT ?_ ?_; focus omega) | (with_reducible refine Go.Rn.RunLN.neF ?_ ?_; focus omega) | refine Go.Rn.RunLN.boolT (by exact rfl) ?_ | refine Go.Rn.RunLN.boolF (by exact rfl) ?_ | ((fail_if_success refine Go.Rn.RunLN.isB ?_); refine Go.Rn.RunLN.any ?_)) | ((with_reducible refine Go.Rn.RunL.id ?_); first | refine Go.Rn.RunL.many Tryz.tOk rfl ?_ | refine Go.Rn.RunL.ev Tryz.tOk rfl rfl rfl ?_ | refine Go.Rn.RunL.unwantedD rfl rfl ?_ | refine Go.Rn.RunL.evV rfl rfl rfl (Go.Rn.OpV.load1 Tryz.tOk rfl rfl rfl (Go.Sg.ldB (by assumption) (by exact rfl) Go.Sg.xt)) ?_ | refine Go.Sg.pfN rfl rfl rfl ?_ | refine Go.Sg.pvN rfl rfl rfl rfl rfl (by infer_instance) ?_ | refine Go.Rn.RunL.evV rfl rfl rfl (Go.Sg.eqf rfl rfl (by infer_instance)) ?_ | refine Go.Rn.RunL.evV rfl rfl rfl (Go.Rn.OpV.loadQ Tryz.tOk rfl rfl rfl (Go.Sg.ldN (by assumption) Go.Sg.xt) (by exact rfl)) ?_ | refine Go.Rn.RunL.evV rfl rfl rfl (Go.Rn.OpV.load1 Tryz.tOk rfl rfl rfl (Go.Sg.ldR0 (by assumption) Go.Sg.xt)) ?_ | refine Go.Rn.RunL.evV rfl rfl rfl (Go.Rn.OpV.load1 Tryz.tOk rfl rfl rfl (Go.Sg.ldR (by assumption) (by exact rfl) Go.Sg.xt)) ?_ | refine Go.Rn.RunL.evV rfl rfl rfl (Go.Rn.OpV.loadQ Tryz.tOk rfl rfl rfl (Go.Sg.ldRN (by assumption) Go.Sg.xt) (by exact rfl)) ?_ | refine Go.Rn.RunL.evV rfl rfl rfl (Go.Rn.OpV.lenSl Tryz.tOk rfl rfl (by assumption)) ?_ | refine Go.Rn.RunL.evV rfl rfl rfl (Go.Rn.OpV.indexS Tryz.tOk _ rfl rfl rfl rfl (by omega)) ?_ | refine Go.Rn.RunL.evV rfl rfl rfl (Go.Sg.lk2s rfl rfl (by assumption) Go.Sg.xt (by infer_instance) (by infer_instance) (by assumption)) ?_ | refine Go.Rn.RunL.evV rfl rfl rfl (Go.Sg.lk2n rfl rfl (by assumption) Go.Sg.xt (by infer_instance) (by infer_instance) (by assumption)) ?_ | refine Go.Rn.RunL.evV rfl rfl rfl (Go.Sg.lk2 rfl rfl (by assumption) Go.Sg.xt (by infer_instance) (by infer_instance)) ?_ | refine Go.Rn.RunL.evV rfl rfl rfl (Go.Sg.lk1s rfl rfl (by assumption) Go.Sg.xt (by infer_instance) (by infer_instance) (by assumption)) ?_ | refine Go.Rn.RunL.evV rfl rfl rfl (Go.Sg.lk1n rfl rfl (by assumption) Go.Sg.xt (by infer_instance) (by infer_instance) (by assumption)) ?_ | refine Go.Rn.RunL.evV rfl rfl rfl (Go.Sg.lk1 rfl rfl (by assumption) Go.Sg.xt (by infer_instance) (by infer_instance)) ?_ | refine Go.Rn.RunL.evV rfl rfl rfl (Go.Rn.OpV.quo Tryz.tOk rfl rfl (by omega) (by omega) (by omega)) ?_ | refine Go.Rn.RunL.unwantedN rfl ?_ | refine Go.Rn.RunL.nil ?_) | refine Go.Rn.RunE.condT rfl rfl ?_ | refine Go.Rn.RunE.condF rfl rfl ?_ | refine Go.Rn.RunE.seq ?_ | refine Go.Rn.RunE.region ?_ | refine Go.Rn.RunE.block ?_ | refine Go.Rn.RunE.inBlock ?_ | refine Go.Rn.RunE.skip ?_ | refine Go.Rn.RunE.exit rfl ?_ | refine Go.Rn.RunE.scope ?_ | refine Go.Rn.RunE.inScope ?_ | refine Go.Rn.RunE.label ?_)); exact Go.Rn.RunLN.boolC h1_ h2_) : G := k h1 h2
theorem gn {m : Bool} {H1 H2 : Prop} (h1 : m = true → H1) (h2 : m = false → H2) (k : (m = true → H1) → (m = false → H2) → G := by intro h1_ h2_; (repeat (first | ((with_reducible refine Go.Rn.RunLN.id ?_); first | with_reducible refine Go.Rn.RunLN.boolT rfl ?_ | with_reducible refine Go.Rn.RunLN.boolF rfl ?_ | (with_reducible refine Go.Rn.RunLN.chk ?_; refine Go.Rn.RunLN.int (by (first | (refine Go.Rn.wr_i64 ?_ ?_; omega; omega) | (refine Go.Rn.wm_i64 ?_; omega) | (refine Go.Rn.wq_i64 ?_ ?_ ?_; omega; omega; omega) | rfl)) ?_) | with_reducible refine Go.Rn.RunLN.anyX rfl ?_ | refine Go.Rn.RunLN.boolT (by assumption) ?_ | refine Go.Rn.RunLN.boolF (by assumption) ?_ | with_reducible refine Go.Rn.RunLN.eqT rfl ?_ | with_reducible refine Go.Rn.RunLN.neF rfl ?_ | refine Go.Rn.RunLN.boolT (by exact rfl) ?_ | refine Go.Rn.RunLN.boolF (by exact rfl) ?_ | ((fail_if_success refine Go.Rn.RunLN.isB ?_); refine Go.Rn.RunLN.any ?_)) | ((with_reducible refine Go.Rn.RunL.id ?_); first | refine Go.Rn.RunL.many Tryz.tOk rfl ?_ | refine Go.Rn.RunL.ev Tryz.tOk rfl rfl rfl ?_ | refine Go.Rn.RunL.unwantedD rfl rfl ?_ | refine Go.Rn.RunL.evV rfl rfl rfl (Go.Rn.OpV.load1 Tryz.tOk rfl rfl rfl (Go.Sg.ldB (by assumption) (by exact rfl) Go.Sg.xt)) ?_ | refine Go.Sg.pfN rfl rfl rfl ?_ | refine Go.Sg.pvN rfl rfl rfl rfl rfl (by infer_instance) ?_ | refine Go.Rn.RunL.evV rfl rfl rfl (Go.Sg.eqf rfl rfl (by infer_instance)) ?_ | refine Go.Rn.RunL.evV rfl rfl rfl (Go.Rn.OpV.loadQ Tryz.tOk rfl rfl rfl (Go.Sg.ldN (by assumption) Go.Sg.xt) (by exact rfl)) ?_ | refine Go.Rn.RunL.evV rfl rfl rfl (Go.Rn.OpV.load1 Tryz.tOk rfl rfl rfl (Go.Sg.ldR0 (by assumption) Go.Sg.xt)) ?_ | refine Go.Rn.RunL.evV rfl rfl rfl (Go.Rn.OpV.load1 Tryz.tOk rfl rfl rfl (Go.Sg.ldR (by assumption) (by exact rfl) Go.Sg.xt)) ?_ | refine Go.Rn.RunL.evV rfl rfl rfl (Go.Rn.OpV.loadQ Tryz.tOk rfl rfl rfl (Go.Sg.ldRN (by assumption) Go.Sg.xt) (by exact rfl)) ?_ | refine Go.Rn.RunL.evV rfl rfl rfl (Go.Rn.OpV.lenSl Tryz.tOk rfl rfl (by assumption)) ?_ | refine Go.Rn.RunL.evV rfl rfl rfl (Go.Rn.OpV.indexS Tryz.tOk _ rfl rfl rfl rfl (by omega)) ?_ | refine Go.Rn.RunL.evV rfl rfl rfl (Go.Sg.lk2s rfl rfl (by assumption) Go.Sg.xt (by infer_instance) (by infer_instance) (by assumption)) ?_ | refine Go.Rn.RunL.evV rfl rfl rfl (Go.Sg.lk2n rfl rfl (by assumption) Go.Sg.xt (by infer_instance) (by infer_instance) (by assumption)) ?_ | refine Go.Rn.RunL.evV rfl rfl rfl (Go.Sg.lk2 rfl rfl (by assumption) Go.Sg.xt (by infer_instance) (by infer_instance)) ?_ | refine Go.Rn.RunL.evV rfl rfl rfl (Go.Sg.lk1s rfl rfl (by assumption) Go.Sg.xt (by infer_instance) (by infer_instance) (by assumption)) ?_ | refine Go.Rn.RunL.evV rfl rfl rfl (Go.Sg.lk1n rfl rfl (by assumption) Go.Sg.xt (by infer_instance) (by infer_instance) (by assumption)) ?_ | refine Go.Rn.RunL.evV rfl rfl rfl (Go.Sg.lk1 rfl rfl (by assumption) Go.Sg.xt (by infer_instance) (by infer_instance)) ?_ | refine Go.Rn.RunL.evV rfl rfl rfl (Go.Rn.OpV.quo Tryz.tOk rfl rfl (by omega) (by omega) (by omega)) ?_ | refine Go.Rn.RunL.unwantedN rfl ?_ | refine Go.Rn.RunL.nil ?_) | refine Go.Rn.RunE.condT rfl rfl ?_ | refine Go.Rn.RunE.condF rfl rfl ?_ | refine Go.Rn.RunE.seq ?_ | refine Go.Rn.RunE.region ?_ | refine Go.Rn.RunE.block ?_ | refine Go.Rn.RunE.inBlock ?_ | refine Go.Rn.RunE.skip ?_ | refine Go.Rn.RunE.exit rfl ?_ | refine Go.Rn.RunE.scope ?_ | refine Go.Rn.RunE.inScope ?_ | refine Go.Rn.RunE.label ?_)); exact Go.Rn.RunLN.boolC h1_ h2_) : G := k h1 h2
theorem gnx {w : World} {m : Bool} {K1 K2 : World → Prop} (h1 : ∀ w', Ext w w' → m = true → K1 w') (h2 : ∀ w', Ext w w' → m = false → K2 w') (k : (∀ w', Ext w w' → m = true → K1 w') → (∀ w', Ext w w' → m = false → K2 w') → G := by intro h1_ h2_; (repeat (first | ((with_reducible refine Go.Rn.RunLN.id ?_); first | with_reducible refine Go.Rn.RunLN.boolT rfl ?_ | with_reducible refine Go.Rn.RunLN.boolF rfl ?_ | (with_reducible refine Go.Rn.RunLN.chk ?_; refine Go.Rn.RunLN.int (by (first | (refine Go.Rn.wr_i64 ?_ ?_; omega; omega) | (refine Go.Rn.wm_i64 ?_; omega) | (refine Go.Rn.wq_i64 ?_ ?_ ?_; omega; omega; omega) | rfl)) ?_) | with_reducible refine Go.Rn.RunLN.anyX rfl ?_ | refine Go.Rn.RunLN.boolT (by assumption) ?_ | refine Go.Rn.RunLN.boolF (by assumption) ?_ | with_reducible refine Go.Rn.RunLN.eqT rfl ?_ | with_reducible refine Go.Rn.RunLN.neF rfl ?_ | refine Go.Rn.RunLN.boolT (by exact rfl) ?_ | refine Go.Rn.RunLN.boolF (by exact rfl) ?_ | ((fail_if_success refine Go.Rn.RunLN.isB ?_); refine Go.Rn.RunLN.any ?_)) | ((with_reducible refine Go.Rn.RunL.id ?_); first | refine Go.Rn.RunL.many Tryz.tOk rfl ?_ | refine Go.Rn.RunL.ev Tryz.tOk rfl rfl rfl ?_ | refine Go.Rn.RunL.unwantedD rfl rfl ?_ | refine Go.Rn.RunL.evV rfl rfl rfl (Go.Rn.OpV.load1 Tryz.tOk rfl rfl rfl (Go.Sg.ldB (by assumption) (by exact rfl) Go.Sg.xt)) ?_ | refine Go.Sg.pfN rfl rfl rfl ?_ | refine Go.Sg.pvN rfl rfl rfl rfl rfl (by infer_instance) ?_ | refine Go.Rn.RunL.evV rfl rfl rfl (Go.Sg.eqf rfl rfl (by infer_instance)) ?_ | refine Go.Rn.RunL.evV rfl rfl rfl (Go.Rn.OpV.loadQ Tryz.tOk rfl rfl rfl (Go.Sg.ldN (by assumption) Go.Sg.xt) (by exact rfl)) ?_ | refine Go.Rn.RunL.evV rfl rfl rfl (Go.Rn.OpV.load1 Tryz.tOk rfl rfl rfl (Go.Sg.ldR0 (by assumption) Go.Sg.xt)) ?_ | refine Go.Rn.RunL.evV rfl rfl rfl (Go.Rn.OpV.load1 Tryz.tOk rfl rfl rfl (Go.Sg.ldR (by assumption) (by exact rfl) Go.Sg.xt)) ?_ | refine Go.Rn.RunL.evV rfl rfl rfl (Go.Rn.OpV.loadQ Tryz.tOk rfl rfl rfl (Go.Sg.ldRN (by assumption) Go.Sg.xt) (by exact rfl)) ?_ | refine Go.Rn.RunL.evV rfl rfl rfl (Go.Rn.OpV.lenSl Tryz.tOk rfl rfl (by assumption)) ?_ | refine Go.Rn.RunL.evV rfl rfl rfl (Go.Rn.OpV.indexS Tryz.tOk _ rfl rfl rfl rfl (by omega)) ?_ | refine Go.Rn.RunL.evV rfl rfl rfl (Go.Sg.lk2s rfl rfl (by assumption) Go.Sg.xt (by infer_instance) (by infer_instance) (by assumption)) ?_ | refine Go.Rn.RunL.evV rfl rfl rfl (Go.Sg.lk2n rfl rfl (by assumption) Go.Sg.xt (by infer_instance) (by infer_instance) (by assumption)) ?_ | refine Go.Rn.RunL.evV rfl rfl rfl (Go.Sg.lk2 rfl rfl (by assumption) Go.Sg.xt (by infer_instance) (by infer_instance)) ?_ | refine Go.Rn.RunL.evV rfl rfl rfl (Go.Sg.lk1s rfl rfl (by assumption) Go.Sg.xt (by infer_instance) (by infer_instance) (by assumption)) ?_ | refine Go.Rn.RunL.evV rfl rfl rfl (Go.Sg.lk1n rfl rfl (by assumption) Go.Sg.xt (by infer_instance) (by infer_instance) (by assumption)) ?_ | refine Go.Rn.RunL.evV rfl rfl rfl (Go.Sg.lk1 rfl rfl (by assumption) Go.Sg.xt (by infer_instance) (by infer_instance)) ?_ | refine Go.Rn.RunL.evV rfl rfl rfl (Go.Rn.OpV.quo Tryz.tOk rfl rfl (by omega) (by omega) (by omega)) ?_ | refine Go.Rn.RunL.unwantedN rfl ?_ | refine Go.Rn.RunL.nil ?_) | refine Go.Rn.RunE.condT rfl rfl ?_ | refine Go.Rn.RunE.condF rfl rfl ?_ | refine Go.Rn.RunE.seq ?_ | refine Go.Rn.RunE.region ?_ | refine Go.Rn.RunE.block ?_ | refine Go.Rn.RunE.inBlock ?_ | refine Go.Rn.RunE.skip ?_ | refine Go.Rn.RunE.exit rfl ?_ | refine Go.Rn.RunE.scope ?_ | refine Go.Rn.RunE.inScope ?_ | refine Go.Rn.RunE.label ?_ | (refine Go.Sg.pxN rfl rfl rfl ?_; intro ω_ e_) | (refine Go.Sg.pvX rfl rfl rfl rfl rfl (by infer_instance) ?_; intro ω_ e_) | (refine Go.Sg.bsI rfl rfl rfl rfl rfl rfl ?_; intro β0_ ω_ e_ g0_ z0_) | (refine Go.Sg.plN rfl rfl rfl rfl rfl rfl (by infer_instance) (by assumption) Go.Sg.xt rfl ?_; intro ω_ e_) | (refine Go.Rn.RunE.draw (fun _ => False) mix ?_; intro ω_ e_; (repeat (first | ((with_reducible refine Go.Rn.AsyN.id ?_); first | with_reducible refine Go.Rn.AsyN.boolT rfl ?_ | with_reducible refine Go.Rn.AsyN.boolF rfl ?_ | (with_reducible refine Go.Rn.AsyN.chk ?_; refine Go.Rn.AsyN.int (by (first | (refine Go.Rn.wr_i64 ?_ ?_; omega; omega) | (refine Go.Rn.wm_i64 ?_; omega) | (refine Go.Rn.wq_i64 ?_ ?_ ?_; omega; omega; omega) | rfl)) ?_) | with_reducible refine Go.Rn.AsyN.anyX rfl ?_ | refine Go.Rn.AsyN.boolT (by assumption) ?_ | refine Go.Rn.AsyN.boolF (by assumption) ?_ | with_reducible refine Go.Rn.AsyN.eqT rfl ?_ | with_reducible refine Go.Rn.AsyN.neF rfl ?_ | (with_reducible refine Go.Rn.AsyN.decT ?_ ?_; focus omega) | (with_reducible refine Go.Rn.AsyN.decF ?_ ?_; focus omega) | (with_reducible refine Go.Rn.AsyN.eqT ?_ ?_; focus omega) | (with_reducible refine Go.Rn.AsyN.eqF ?_ ?_; focus omega) | (with_reducible refine Go.Rn.AsyN.neT ?_ ?_; focus omega) | (with_reducible refine Go.Rn.AsyN.neF ?_ ?_; focus omega) | refine Go.Rn.AsyN.boolT (by exact rfl) ?_ | refine Go.Rn.AsyN.boolF (by exact rfl) ?_ | refine Go.Rn.AsyN.any ?_) | ((with_reducible refine Go.Rn.Asy.id ?_); first | refine Go.Rn.Asy.ev Tryz.tOk rfl rfl rfl ?_ | refine Go.Rn.Asy.unwantedD rfl rfl rfl ?_ | refine Go.Rn.Asy.evV rfl rfl rfl rfl (fun _ X_ => Go.Rn.OpV.load1 Tryz.tOk rfl rfl rfl (Go.Sg.ldS (by assumption) (by exact rfl) X_)) ?_ | refine Go.Rn.Asy.evV rfl rfl rfl rfl (fun _ X_ => Go.Rn.OpV.loadQ Tryz.tOk rfl rfl rfl (Go.Sg.ldNS (by assumption) X_) (by exact rfl)) ?_ | refine Go.Rn.Asy.evV rfl rfl rfl rfl (fun _ X_ => Go.Sg.lk1S rfl rfl (by assumption) X_ (by infer_instance) (by infer_instance)) ?_ | refine Go.Rn.Asy.evV rfl rfl rfl rfl (fun _ X_ => Go.Rn.OpV.load1 Tryz.tOk rfl rfl rfl (Go.Sg.ldB (by assumption) (by exact rfl) Go.Sg.xt)) ?_ | refine Go.Sg.pfA rfl rfl rfl ?_ | refine Go.Sg.pfX rfl rfl rfl ?_ | refine Go.Sg.pvA rfl rfl rfl rfl rfl (by infer_instance) ?_ | refine Go.Rn.Asy.evV rfl rfl rfl rfl (fun _ X_ => Go.Sg.eqf rfl rfl (by infer_instance)) ?_ | refine Go.Rn.Asy.evV rfl rfl rfl rfl (fun _ X_ => Go.Rn.OpV.loadQ Tryz.tOk rfl rfl rfl (Go.Sg.ldN (by assumption) Go.Sg.xt) (by exact rfl)) ?_ | refine Go.Rn.Asy.evV rfl rfl rfl rfl (fun _ X_ => Go.Rn.OpV.load1 Tryz.tOk rfl rfl rfl (Go.Sg.ldR0 (by assumption) Go.Sg.xt)) ?_ | refine Go.Rn.Asy.evV rfl rfl rfl rfl (fun _ X_ => Go.Rn.OpV.load1 Tryz.tOk rfl rfl rfl (Go.Sg.ldR (by assumption) (by exact rfl) Go.Sg.xt)) ?_ | refine Go.Rn.Asy.evV rfl rfl rfl rfl (fun _ X_ => Go.Rn.OpV.loadQ Tryz.tOk rfl rfl rfl (Go.Sg.ldRN (by assumption) Go.Sg.xt) (by exact rfl)) ?_ | refine Go.Rn.Asy.evV rfl rfl rfl rfl (fun _ X_ => Go.Rn.OpV.lenSl Tryz.tOk rfl rfl (by assumption)) ?_ | refine Go.Rn.Asy.evV rfl rfl rfl rfl (fun _ X_ => Go.Rn.OpV.indexS Tryz.tOk _ rfl rfl rfl rfl (by omega)) ?_ | refine Go.Rn.Asy.evV rfl rfl rfl rfl (fun _ X_ => Go.Sg.lk2s rfl rfl (by assumption) Go.Sg.xt (by infer_instance) (by infer_instance) (by assumption)) ?_ | refine Go.Rn.Asy.evV rfl rfl rfl rfl (fun _ X_ => Go.Sg.lk2n rfl rfl (by assumption) Go.Sg.xt (by infer_instance) (by infer_instance) (by assumption)) ?_ | refine Go.Rn.Asy.evV rfl rfl rfl rfl (fun _ X_ => Go.Sg.lk2 rfl rfl (by assumption) Go.Sg.xt (by infer_instance) (by infer_instance)) ?_ | refine Go.Rn.Asy.evV rfl rfl rfl rfl (fun _ X_ => Go.Sg.lk1s rfl rfl (by assumption) Go.Sg.xt (by infer_instance) (by infer_instance) (by assumption)) ?_ | refine Go.Rn.Asy.evV rfl rfl rfl rfl (fun _ X_ => Go.Sg.lk1n rfl rfl (by assumption) Go.Sg.xt (by infer_instance) (by infer_instance) (by assumption)) ?_ | refine Go.Rn.Asy.evV rfl rfl rfl rfl (fun _ X_ => Go.Sg.lk1 rfl rfl (by assumption) Go.Sg.xt (by infer_instance) (by infer_instance)) ?_ | refine Go.Rn.Asy.evV rfl rfl rfl rfl (fun _ X_ => Go.Rn.OpV.quo Tryz.tOk rfl rfl (by omega) (by omega) (by omega)) ?_))); refine Go.Rn.Asy.end_ (by decide +kernel) ?_; intro ω_ e_))); first | exact Go.Rn.RunLN.boolC (h1_ ω_ Go.Sg.xt) (h2_ ω_ Go.Sg.xt) | exact Go.Rn.RunLN.boolC (h1_ _ (Go.Rn.ExtB.refl _ _)) (h2_ _ (Go.Rn.ExtB.refl _ _))) : G := k h1 h2
theorem gc {f : FuncId} {vs : List Value} {w : World} {R : Value → World → Prop} {K : Value → World → Prop} (hc : Rets Tryz.prog f vs w R) (h : ∀ v w', R v w' → K v w')
    (k : Rets Tryz.prog f vs w R → (∀ v w', R v w' → K v w') → G := by intro c_ h_; (repeat (first | ((with_reducible refine Go.Rn.RunLN.id ?_); first | with_reducible refine Go.Rn.RunLN.boolT rfl ?_ | with_reducible refine Go.Rn.RunLN.boolF rfl ?_ | (with_reducible refine Go.Rn.RunLN.chk ?_; refine Go.Rn.RunLN.int (by (first | (refine Go.Rn.wr_i64 ?_ ?_; omega; omega) | (refine Go.Rn.wm_i64 ?_; omega) | (refine Go.Rn.wq_i64 ?_ ?_ ?_; omega; omega; omega) | rfl)) ?_) | with_reducible refine Go.Rn.RunLN.anyX rfl ?_ | refine Go.Rn.RunLN.boolT (by assumption) ?_ | refine Go.Rn.RunLN.boolF (by assumption) ?_ | with_reducible refine Go.Rn.RunLN.eqT rfl ?_ | with_reducible refine Go.Rn.RunLN.neF rfl ?_ | (with_reducible refine Go.Rn.RunLN.decT ?_ ?_; focus omega) | (with_reducible refine Go.Rn.RunLN.decF ?_ ?_; focus omega) | (with_reducible refine Go.Rn.RunLN.eqT ?_ ?_; focus omega) | (with_reducible refine Go.Rn.RunLN.eqF ?_ ?_; focus omega) | (with_reducible refine Go.Rn.RunLN.neT ?_ ?_; focus omega) | (with_reducible refine Go.Rn.RunLN.neF ?_ ?_; focus omega) | refine Go.Rn.RunLN.boolT (by exact rfl) ?_ | refine Go.Rn.RunLN.boolF (by exact rfl) ?_ | refine Go.Rn.RunLN.any ?_) | ((with_reducible refine Go.Rn.RunL.id ?_); first | refine Go.Rn.RunL.many Tryz.tOk rfl ?_ | refine Go.Rn.RunL.ev Tryz.tOk rfl rfl rfl ?_ | refine Go.Rn.RunL.unwantedD rfl rfl ?_ | refine Go.Rn.RunL.evV rfl rfl rfl (Go.Rn.OpV.load1 Tryz.tOk rfl rfl rfl (Go.Sg.ldB (by assumption) (by exact rfl) Go.Sg.xt)) ?_ | refine Go.Sg.pfN rfl rfl rfl ?_ | refine Go.Sg.pvN rfl rfl rfl rfl rfl (by infer_instance) ?_ | refine Go.Rn.RunL.evV rfl rfl rfl (Go.Sg.eqf rfl rfl (by infer_instance)) ?_ | refine Go.Rn.RunL.evV rfl rfl rfl (Go.Rn.OpV.loadQ Tryz.tOk rfl rfl rfl (Go.Sg.ldN (by assumption) Go.Sg.xt) (by exact rfl)) ?_ | refine Go.Rn.RunL.evV rfl rfl rfl (Go.Rn.OpV.load1 Tryz.tOk rfl rfl rfl (Go.Sg.ldR0 (by assumption) Go.Sg.xt)) ?_ | refine Go.Rn.RunL.evV rfl rfl rfl (Go.Rn.OpV.load1 Tryz.tOk rfl rfl rfl (Go.Sg.ldR (by assumption) (by exact rfl) Go.Sg.xt)) ?_ | refine Go.Rn.RunL.evV rfl rfl rfl (Go.Rn.OpV.loadQ Tryz.tOk rfl rfl rfl (Go.Sg.ldRN (by assumption) Go.Sg.xt) (by exact rfl)) ?_ | refine Go.Rn.RunL.evV rfl rfl rfl (Go.Rn.OpV.lenSl Tryz.tOk rfl rfl (by assumption)) ?_ | refine Go.Rn.RunL.evV rfl rfl rfl (Go.Rn.OpV.indexS Tryz.tOk _ rfl rfl rfl rfl (by omega)) ?_ | refine Go.Rn.RunL.evV rfl rfl rfl (Go.Sg.lk2s rfl rfl (by assumption) Go.Sg.xt (by infer_instance) (by infer_instance) (by assumption)) ?_ | refine Go.Rn.RunL.evV rfl rfl rfl (Go.Sg.lk2n rfl rfl (by assumption) Go.Sg.xt (by infer_instance) (by infer_instance) (by assumption)) ?_ | refine Go.Rn.RunL.evV rfl rfl rfl (Go.Sg.lk2 rfl rfl (by assumption) Go.Sg.xt (by infer_instance) (by infer_instance)) ?_ | refine Go.Rn.RunL.evV rfl rfl rfl (Go.Sg.lk1s rfl rfl (by assumption) Go.Sg.xt (by infer_instance) (by infer_instance) (by assumption)) ?_ | refine Go.Rn.RunL.evV rfl rfl rfl (Go.Sg.lk1n rfl rfl (by assumption) Go.Sg.xt (by infer_instance) (by infer_instance) (by assumption)) ?_ | refine Go.Rn.RunL.evV rfl rfl rfl (Go.Sg.lk1 rfl rfl (by assumption) Go.Sg.xt (by infer_instance) (by infer_instance)) ?_ | refine Go.Rn.RunL.evV rfl rfl rfl (Go.Rn.OpV.quo Tryz.tOk rfl rfl (by omega) (by omega) (by omega)) ?_ | refine Go.Rn.RunL.unwantedN rfl ?_ | refine Go.Rn.RunL.nil ?_) | refine Go.Rn.RunE.condT rfl rfl ?_ | refine Go.Rn.RunE.condF rfl rfl ?_ | refine Go.Rn.RunE.seq ?_ | refine Go.Rn.RunE.region ?_ | refine Go.Rn.RunE.block ?_ | refine Go.Rn.RunE.inBlock ?_ | refine Go.Rn.RunE.skip ?_ | refine Go.Rn.RunE.exit rfl ?_ | refine Go.Rn.RunE.scope ?_ | refine Go.Rn.RunE.inScope ?_ | refine Go.Rn.RunE.label ?_)); exact Go.Rn.RunL.call rfl rfl rfl c_ h_) : G := k hc h
theorem gx {w : World} {K : World → Prop} (h : ∀ w', Ext w w' → K w') (k : (∀ w', Ext w w' → K w') → G := by intro h_; (repeat (first | ((with_reducible refine Go.Rn.RunLN.id ?_); first | with_reducible refine Go.Rn.RunLN.boolT rfl ?_ | with_reducible refine Go.Rn.RunLN.boolF rfl ?_ | (with_reducible refine Go.Rn.RunLN.chk ?_; refine Go.Rn.RunLN.int (by (first | (refine Go.Rn.wr_i64 ?_ ?_; omega; omega) | (refine Go.Rn.wm_i64 ?_; omega) | (refine Go.Rn.wq_i64 ?_ ?_ ?_; omega; omega; omega) | rfl)) ?_) | with_reducible refine Go.Rn.RunLN.anyX rfl ?_ | refine Go.Rn.RunLN.boolT (by assumption) ?_ | refine Go.Rn.RunLN.boolF (by assumption) ?_ | with_reducible refine Go.Rn.RunLN.eqT rfl ?_ | with_reducible refine Go.Rn.RunLN.neF rfl ?_ | (with_reducible refine Go.Rn.RunLN.decT ?_ ?_; focus omega) | (with_reducible refine Go.Rn.RunLN.decF ?_ ?_; focus omega) | (with_reducible refine Go.Rn.RunLN.eqT ?_ ?_; focus omega) | (with_reducible refine Go.Rn.RunLN.eqF ?_ ?_; focus omega) | (with_reducible refine Go.Rn.RunLN.neT ?_ ?_; focus omega) | (with_reducible refine Go.Rn.RunLN.neF ?_ ?_; focus omega) | refine Go.Rn.RunLN.boolT (by exact rfl) ?_ | refine Go.Rn.RunLN.boolF (by exact rfl) ?_ | ((fail_if_success refine Go.Rn.RunLN.isB ?_); refine Go.Rn.RunLN.any ?_)) | ((with_reducible refine Go.Rn.RunL.id ?_); first | refine Go.Rn.RunL.many Tryz.tOk rfl ?_ | refine Go.Rn.RunL.ev Tryz.tOk rfl rfl rfl ?_ | refine Go.Rn.RunL.unwantedD rfl rfl ?_ | refine Go.Rn.RunL.evV rfl rfl rfl (Go.Rn.OpV.load1 Tryz.tOk rfl rfl rfl (Go.Sg.ldB (by assumption) (by exact rfl) Go.Sg.xt)) ?_ | refine Go.Sg.pfN rfl rfl rfl ?_ | refine Go.Sg.pvN rfl rfl rfl rfl rfl (by infer_instance) ?_ | refine Go.Rn.RunL.evV rfl rfl rfl (Go.Sg.eqf rfl rfl (by infer_instance)) ?_ | refine Go.Rn.RunL.evV rfl rfl rfl (Go.Rn.OpV.loadQ Tryz.tOk rfl rfl rfl (Go.Sg.ldN (by assumption) Go.Sg.xt) (by exact rfl)) ?_ | refine Go.Rn.RunL.evV rfl rfl rfl (Go.Rn.OpV.load1 Tryz.tOk rfl rfl rfl (Go.Sg.ldR0 (by assumption) Go.Sg.xt)) ?_ | refine Go.Rn.RunL.evV rfl rfl rfl (Go.Rn.OpV.load1 Tryz.tOk rfl rfl rfl (Go.Sg.ldR (by assumption) (by exact rfl) Go.Sg.xt)) ?_ | refine Go.Rn.RunL.evV rfl rfl rfl (Go.Rn.OpV.loadQ Tryz.tOk rfl rfl rfl (Go.Sg.ldRN (by assumption) Go.Sg.xt) (by exact rfl)) ?_ | refine Go.Rn.RunL.evV rfl rfl rfl (Go.Rn.OpV.lenSl Tryz.tOk rfl rfl (by assumption)) ?_ | refine Go.Rn.RunL.evV rfl rfl rfl (Go.Rn.OpV.indexS Tryz.tOk _ rfl rfl rfl rfl (by omega)) ?_ | refine Go.Rn.RunL.evV rfl rfl rfl (Go.Sg.lk2s rfl rfl (by assumption) Go.Sg.xt (by infer_instance) (by infer_instance) (by assumption)) ?_ | refine Go.Rn.RunL.evV rfl rfl rfl (Go.Sg.lk2n rfl rfl (by assumption) Go.Sg.xt (by infer_instance) (by infer_instance) (by assumption)) ?_ | refine Go.Rn.RunL.evV rfl rfl rfl (Go.Sg.lk2 rfl rfl (by assumption) Go.Sg.xt (by infer_instance) (by infer_instance)) ?_ | refine Go.Rn.RunL.evV rfl rfl rfl (Go.Sg.lk1s rfl rfl (by assumption) Go.Sg.xt (by infer_instance) (by infer_instance) (by assumption)) ?_ | refine Go.Rn.RunL.evV rfl rfl rfl (Go.Sg.lk1n rfl rfl (by assumption) Go.Sg.xt (by infer_instance) (by infer_instance) (by assumption)) ?_ | refine Go.Rn.RunL.evV rfl rfl rfl (Go.Sg.lk1 rfl rfl (by assumption) Go.Sg.xt (by infer_instance) (by infer_instance)) ?_ | refine Go.Rn.RunL.evV rfl rfl rfl (Go.Rn.OpV.quo Tryz.tOk rfl rfl (by omega) (by omega) (by omega)) ?_ | refine Go.Rn.RunL.unwantedN rfl ?_ | refine Go.Rn.RunL.nil ?_) | refine Go.Rn.RunE.condT rfl rfl ?_ | refine Go.Rn.RunE.condF rfl rfl ?_ | refine Go.Rn.RunE.seq ?_ | refine Go.Rn.RunE.region ?_ | refine Go.Rn.RunE.block ?_ | refine Go.Rn.RunE.inBlock ?_ | refine Go.Rn.RunE.skip ?_ | refine Go.Rn.RunE.exit rfl ?_ | refine Go.Rn.RunE.scope ?_ | refine Go.Rn.RunE.inScope ?_ | refine Go.Rn.RunE.label ?_ | (refine Go.Sg.pxN rfl rfl rfl ?_; intro ω_ e_) | (refine Go.Sg.pvX rfl rfl rfl rfl rfl (by infer_instance) ?_; intro ω_ e_) | (refine Go.Sg.bsI rfl rfl rfl rfl rfl rfl ?_; intro β0_ ω_ e_ g0_ z0_) | (refine Go.Sg.plN rfl rfl rfl rfl rfl rfl (by infer_instance) (by assumption) Go.Sg.xt rfl ?_; intro ω_ e_) | (refine Go.Rn.RunE.draw (fun _ => False) mix ?_; intro ω_ e_; (repeat (first | ((with_reducible refine Go.Rn.AsyN.id ?_); first | with_reducible refine Go.Rn.AsyN.boolT rfl ?_ | with_reducible refine Go.Rn.AsyN.boolF rfl ?_ | (with_reducible refine Go.Rn.AsyN.chk ?_; refine Go.Rn.AsyN.int (by (first | (refine Go.Rn.wr_i64 ?_ ?_; omega; omega) | (refine Go.Rn.wm_i64 ?_; omega) | (refine Go.Rn.wq_i64 ?_ ?_ ?_; omega; omega; omega) | rfl)) ?_) | with_reducible refine Go.Rn.AsyN.anyX rfl ?_ | refine Go.Rn.AsyN.boolT (by assumption) ?_ | refine Go.Rn.AsyN.boolF (by assumption) ?_ | with_reducible refine Go.Rn.AsyN.eqT rfl ?_ | with_reducible refine Go.Rn.AsyN.neF rfl ?_ | (with_reducible refine Go.Rn.AsyN.decT ?_ ?_; focus omega) | (with_reducible refine Go.Rn.AsyN.decF ?_ ?_; focus omega) | (with_reducible refine Go.Rn.AsyN.eqT ?_ ?_; focus omega) | (with_reducible refine Go.Rn.AsyN.eqF ?_ ?_; focus omega) | (with_reducible refine Go.Rn.AsyN.neT ?_ ?_; focus omega) | (with_reducible refine Go.Rn.AsyN.neF ?_ ?_; focus omega) | refine Go.Rn.AsyN.boolT (by exact rfl) ?_ | refine Go.Rn.AsyN.boolF (by exact rfl) ?_ | refine Go.Rn.AsyN.any ?_) | ((with_reducible refine Go.Rn.Asy.id ?_); first | refine Go.Rn.Asy.ev Tryz.tOk rfl rfl rfl ?_ | refine Go.Rn.Asy.unwantedD rfl rfl rfl ?_ | refine Go.Rn.Asy.evV rfl rfl rfl rfl (fun _ X_ => Go.Rn.OpV.load1 Tryz.tOk rfl rfl rfl (Go.Sg.ldS (by assumption) (by exact rfl) X_)) ?_ | refine Go.Rn.Asy.evV rfl rfl rfl rfl (fun _ X_ => Go.Rn.OpV.loadQ Tryz.tOk rfl rfl rfl (Go.Sg.ldNS (by assumption) X_) (by exact rfl)) ?_ | refine Go.Rn.Asy.evV rfl rfl rfl rfl (fun _ X_ => Go.Sg.lk1S rfl rfl (by assumption) X_ (by infer_instance) (by infer_instance)) ?_ | refine Go.Rn.Asy.evV rfl rfl rfl rfl (fun _ X_ => Go.Rn.OpV.load1 Tryz.tOk rfl rfl rfl (Go.Sg.ldB (by assumption) (by exact rfl) Go.Sg.xt)) ?_ | refine Go.Sg.pfA rfl rfl rfl ?_ | refine Go.Sg.pfX rfl rfl rfl ?_ | refine Go.Sg.pvA rfl rfl rfl rfl rfl (by infer_instance) ?_ | refine Go.Rn.Asy.evV rfl rfl rfl rfl (fun _ X_ => Go.Sg.eqf rfl rfl (by infer_instance)) ?_ | refine Go.Rn.Asy.evV rfl rfl rfl rfl (fun _ X_ => Go.Rn.OpV.loadQ Tryz.tOk rfl rfl rfl (Go.Sg.ldN (by assumption) Go.Sg.xt) (by exact rfl)) ?_ | refine Go.Rn.Asy.evV rfl rfl rfl rfl (fun _ X_ => Go.Rn.OpV.load1 Tryz.tOk rfl rfl rfl (Go.Sg.ldR0 (by assumption) Go.Sg.xt)) ?_ | refine Go.Rn.Asy.evV rfl rfl rfl rfl (fun _ X_ => Go.Rn.OpV.load1 Tryz.tOk rfl rfl rfl (Go.Sg.ldR (by assumption) (by exact rfl) Go.Sg.xt)) ?_ | refine Go.Rn.Asy.evV rfl rfl rfl rfl (fun _ X_ => Go.Rn.OpV.loadQ Tryz.tOk rfl rfl rfl (Go.Sg.ldRN (by assumption) Go.Sg.xt) (by exact rfl)) ?_ | refine Go.Rn.Asy.evV rfl rfl rfl rfl (fun _ X_ => Go.Rn.OpV.lenSl Tryz.tOk rfl rfl (by assumption)) ?_ | refine Go.Rn.Asy.evV rfl rfl rfl rfl (fun _ X_ => Go.Rn.OpV.indexS Tryz.tOk _ rfl rfl rfl rfl (by omega)) ?_ | refine Go.Rn.Asy.evV rfl rfl rfl rfl (fun _ X_ => Go.Sg.lk2s rfl rfl (by assumption) Go.Sg.xt (by infer_instance) (by infer_instance) (by assumption)) ?_ | refine Go.Rn.Asy.evV rfl rfl rfl rfl (fun _ X_ => Go.Sg.lk2n rfl rfl (by assumption) Go.Sg.xt (by infer_instance) (by infer_instance) (by assumption)) ?_ | refine Go.Rn.Asy.evV rfl rfl rfl rfl (fun _ X_ => Go.Sg.lk2 rfl rfl (by assumption) Go.Sg.xt (by infer_instance) (by infer_instance)) ?_ | refine Go.Rn.Asy.evV rfl rfl rfl rfl (fun _ X_ => Go.Sg.lk1s rfl rfl (by assumption) Go.Sg.xt (by infer_instance) (by infer_instance) (by assumption)) ?_ | refine Go.Rn.Asy.evV rfl rfl rfl rfl (fun _ X_ => Go.Sg.lk1n rfl rfl (by assumption) Go.Sg.xt (by infer_instance) (by infer_instance) (by assumption)) ?_ | refine Go.Rn.Asy.evV rfl rfl rfl rfl (fun _ X_ => Go.Sg.lk1 rfl rfl (by assumption) Go.Sg.xt (by infer_instance) (by infer_instance)) ?_ | refine Go.Rn.Asy.evV rfl rfl rfl rfl (fun _ X_ => Go.Rn.OpV.quo Tryz.tOk rfl rfl (by omega) (by omega) (by omega)) ?_))); refine Go.Rn.Asy.end_ (by decide +kernel) ?_; intro ω_ e_))); first | exact h_ ω_ Go.Sg.xt | exact h_ _ (Go.Rn.ExtB.refl _ _)) : G := k h
theorem zOf {w : World} {K : Nat → World → Prop} {cs cs' : List Value} {t : TypeId} {W : World} {B : Nat} (_ : ∀ B w', Ext w w' → w.heap.size ≤ B → Blk w' B cs t → K B w') (z : Blk W B cs' t) (he : cs' = cs) : Blk W B cs t := he ▸ z
theorem g1 {w : World} {K : Nat → World → Prop} {cs : List Value} {t : TypeId} (h : ∀ B w', Ext w w' → w.heap.size ≤ B → Blk w' B cs t → K B w')
    (k : (∀ B w', Ext w w' → w.heap.size ≤ B → Blk w' B cs t → K B w') → G := by
      intro h_; (repeat (first | ((with_reducible refine Go.Rn.RunLN.id ?_); first | with_reducible refine Go.Rn.RunLN.boolT rfl ?_ | with_reducible refine Go.Rn.RunLN.boolF rfl ?_ | (with_reducible refine Go.Rn.RunLN.chk ?_; refine Go.Rn.RunLN.int (by (first | (refine Go.Rn.wr_i64 ?_ ?_; omega; omega) | (refine Go.Rn.wm_i64 ?_; omega) | (refine Go.Rn.wq_i64 ?_ ?_ ?_; omega; omega; omega) | rfl)) ?_) | with_reducible refine Go.Rn.RunLN.anyX rfl ?_ | refine Go.Rn.RunLN.boolT (by assumption) ?_ | refine Go.Rn.RunLN.boolF (by assumption) ?_ | with_reducible refine Go.Rn.RunLN.eqT rfl ?_ | with_reducible refine Go.Rn.RunLN.neF rfl ?_ | (with_reducible refine Go.Rn.RunLN.decT ?_ ?_; focus omega) | (with_reducible refine Go.Rn.RunLN.decF ?_ ?_; focus omega) | (with_reducible refine Go.Rn.RunLN.eqT ?_ ?_; focus omega) | (with_reducible refine Go.Rn.RunLN.eqF ?_ ?_; focus omega) | (with_reducible refine Go.Rn.RunLN.neT ?_ ?_; focus omega) | (with_reducible refine Go.Rn.RunLN.neF ?_ ?_; focus omega) | refine Go.Rn.RunLN.boolT (by exact rfl) ?_ | refine Go.Rn.RunLN.boolF (by exact rfl) ?_ | refine Go.Rn.RunLN.any ?_) | ((with_reducible refine Go.Rn.RunL.id ?_); first | refine Go.Rn.RunL.many Tryz.tOk rfl ?_ | refine Go.Rn.RunL.ev Tryz.tOk rfl rfl rfl ?_ | refine Go.Rn.RunL.unwantedD rfl rfl ?_ | refine Go.Rn.RunL.evV rfl rfl rfl (Go.Rn.OpV.load1 Tryz.tOk rfl rfl rfl (Go.Sg.ldB (by assumption) (by exact rfl) Go.Sg.xt)) ?_ | refine Go.Sg.pfN rfl rfl rfl ?_ | refine Go.Sg.pvN rfl rfl rfl rfl rfl (by infer_instance) ?_ | refine Go.Rn.RunL.evV rfl rfl rfl (Go.Sg.eqf rfl rfl (by infer_instance)) ?_ | refine Go.Rn.RunL.evV rfl rfl rfl (Go.Rn.OpV.loadQ Tryz.tOk rfl rfl rfl (Go.Sg.ldN (by assumption) Go.Sg.xt) (by exact rfl)) ?_ | refine Go.Rn.RunL.evV rfl rfl rfl (Go.Rn.OpV.load1 Tryz.tOk rfl rfl rfl (Go.Sg.ldR0 (by assumption) Go.Sg.xt)) ?_ | refine Go.Rn.RunL.evV rfl rfl rfl (Go.Rn.OpV.load1 Tryz.tOk rfl rfl rfl (Go.Sg.ldR (by assumption) (by exact rfl) Go.Sg.xt)) ?_ | refine Go.Rn.RunL.evV rfl rfl rfl (Go.Rn.OpV.loadQ Tryz.tOk rfl rfl rfl (Go.Sg.ldRN (by assumption) Go.Sg.xt) (by exact rfl)) ?_ | refine Go.Rn.RunL.evV rfl rfl rfl (Go.Rn.OpV.lenSl Tryz.tOk rfl rfl (by assumption)) ?_ | refine Go.Rn.RunL.evV rfl rfl rfl (Go.Rn.OpV.indexS Tryz.tOk _ rfl rfl rfl rfl (by omega)) ?_ | refine Go.Rn.RunL.evV rfl rfl rfl (Go.Sg.lk2s rfl rfl (by assumption) Go.Sg.xt (by infer_instance) (by infer_instance) (by assumption)) ?_ | refine Go.Rn.RunL.evV rfl rfl rfl (Go.Sg.lk2n rfl rfl (by assumption) Go.Sg.xt (by infer_instance) (by infer_instance) (by assumption)) ?_ | refine Go.Rn.RunL.evV rfl rfl rfl (Go.Sg.lk2 rfl rfl (by assumption) Go.Sg.xt (by infer_instance) (by infer_instance)) ?_ | refine Go.Rn.RunL.evV rfl rfl rfl (Go.Sg.lk1s rfl rfl (by assumption) Go.Sg.xt (by infer_instance) (by infer_instance) (by assumption)) ?_ | refine Go.Rn.RunL.evV rfl rfl rfl (Go.Sg.lk1n rfl rfl (by assumption) Go.Sg.xt (by infer_instance) (by infer_instance) (by assumption)) ?_ | refine Go.Rn.RunL.evV rfl rfl rfl (Go.Sg.lk1 rfl rfl (by assumption) Go.Sg.xt (by infer_instance) (by infer_instance)) ?_ | refine Go.Rn.RunL.evV rfl rfl rfl (Go.Rn.OpV.quo Tryz.tOk rfl rfl (by omega) (by omega) (by omega)) ?_ | refine Go.Rn.RunL.unwantedN rfl ?_ | refine Go.Rn.RunL.nil ?_) | refine Go.Rn.RunE.condT rfl rfl ?_ | refine Go.Rn.RunE.condF rfl rfl ?_ | refine Go.Rn.RunE.seq ?_ | refine Go.Rn.RunE.region ?_ | refine Go.Rn.RunE.block ?_ | refine Go.Rn.RunE.inBlock ?_ | refine Go.Rn.RunE.skip ?_ | refine Go.Rn.RunE.exit rfl ?_ | refine Go.Rn.RunE.scope ?_ | refine Go.Rn.RunE.inScope ?_ | refine Go.Rn.RunE.label ?_ | (refine Go.Sg.pxN rfl rfl rfl ?_; intro ω_ e_) | (refine Go.Sg.pvX rfl rfl rfl rfl rfl (by infer_instance) ?_; intro ω_ e_) | (refine Go.Sg.bsI rfl rfl rfl rfl rfl rfl ?_; intro β0_ ω_ e_ g0_ z0_) | (refine Go.Sg.plN rfl rfl rfl rfl rfl rfl (by infer_instance) (by assumption) Go.Sg.xt rfl ?_; intro ω_ e_) | (refine Go.Rn.RunE.draw (fun _ => False) mix ?_; intro ω_ e_; (repeat (first | ((with_reducible refine Go.Rn.AsyN.id ?_); first | with_reducible refine Go.Rn.AsyN.boolT rfl ?_ | with_reducible refine Go.Rn.AsyN.boolF rfl ?_ | (with_reducible refine Go.Rn.AsyN.chk ?_; refine Go.Rn.AsyN.int (by (first | (refine Go.Rn.wr_i64 ?_ ?_; omega; omega) | (refine Go.Rn.wm_i64 ?_; omega) | (refine Go.Rn.wq_i64 ?_ ?_ ?_; omega; omega; omega) | rfl)) ?_) | with_reducible refine Go.Rn.AsyN.anyX rfl ?_ | refine Go.Rn.AsyN.boolT (by assumption) ?_ | refine Go.Rn.AsyN.boolF (by assumption) ?_ | with_reducible refine Go.Rn.AsyN.eqT rfl ?_ | with_reducible refine Go.Rn.AsyN.neF rfl ?_ | (with_reducible refine Go.Rn.AsyN.decT ?_ ?_; focus omega) | (with_reducible refine Go.Rn.AsyN.decF ?_ ?_; focus omega) | (with_reducible refine Go.Rn.AsyN.eqT ?_ ?_; focus omega) | (with_reducible refine Go.Rn.AsyN.eqF ?_ ?_; focus omega) | (with_reducible refine Go.Rn.AsyN.neT ?_ ?_; focus omega) | (with_reducible refine Go.Rn.AsyN.neF ?_ ?_; focus omega) | refine Go.Rn.AsyN.boolT (by exact rfl) ?_ | refine Go.Rn.AsyN.boolF (by exact rfl) ?_ | refine Go.Rn.AsyN.any ?_) | ((with_reducible refine Go.Rn.Asy.id ?_); first | refine Go.Rn.Asy.ev Tryz.tOk rfl rfl rfl ?_ | refine Go.Rn.Asy.unwantedD rfl rfl rfl ?_ | refine Go.Rn.Asy.evV rfl rfl rfl rfl (fun _ X_ => Go.Rn.OpV.load1 Tryz.tOk rfl rfl rfl (Go.Sg.ldS (by assumption) (by exact rfl) X_)) ?_ | refine Go.Rn.Asy.evV rfl rfl rfl rfl (fun _ X_ => Go.Rn.OpV.loadQ Tryz.tOk rfl rfl rfl (Go.Sg.ldNS (by assumption) X_) (by exact rfl)) ?_ | refine Go.Rn.Asy.evV rfl rfl rfl rfl (fun _ X_ => Go.Sg.lk1S rfl rfl (by assumption) X_ (by infer_instance) (by infer_instance)) ?_ | refine Go.Rn.Asy.evV rfl rfl rfl rfl (fun _ X_ => Go.Rn.OpV.load1 Tryz.tOk rfl rfl rfl (Go.Sg.ldB (by assumption) (by exact rfl) Go.Sg.xt)) ?_ | refine Go.Sg.pfA rfl rfl rfl ?_ | refine Go.Sg.pfX rfl rfl rfl ?_ | refine Go.Sg.pvA rfl rfl rfl rfl rfl (by infer_instance) ?_ | refine Go.Rn.Asy.evV rfl rfl rfl rfl (fun _ X_ => Go.Sg.eqf rfl rfl (by infer_instance)) ?_ | refine Go.Rn.Asy.evV rfl rfl rfl rfl (fun _ X_ => Go.Rn.OpV.loadQ Tryz.tOk rfl rfl rfl (Go.Sg.ldN (by assumption) Go.Sg.xt) (by exact rfl)) ?_ | refine Go.Rn.Asy.evV rfl rfl rfl rfl (fun _ X_ => Go.Rn.OpV.load1 Tryz.tOk rfl rfl rfl (Go.Sg.ldR0 (by assumption) Go.Sg.xt)) ?_ | refine Go.Rn.Asy.evV rfl rfl rfl rfl (fun _ X_ => Go.Rn.OpV.load1 Tryz.tOk rfl rfl rfl (Go.Sg.ldR (by assumption) (by exact rfl) Go.Sg.xt)) ?_ | refine Go.Rn.Asy.evV rfl rfl rfl rfl (fun _ X_ => Go.Rn.OpV.loadQ Tryz.tOk rfl rfl rfl (Go.Sg.ldRN (by assumption) Go.Sg.xt) (by exact rfl)) ?_ | refine Go.Rn.Asy.evV rfl rfl rfl rfl (fun _ X_ => Go.Rn.OpV.lenSl Tryz.tOk rfl rfl (by assumption)) ?_ | refine Go.Rn.Asy.evV rfl rfl rfl rfl (fun _ X_ => Go.Rn.OpV.indexS Tryz.tOk _ rfl rfl rfl rfl (by omega)) ?_ | refine Go.Rn.Asy.evV rfl rfl rfl rfl (fun _ X_ => Go.Sg.lk2s rfl rfl (by assumption) Go.Sg.xt (by infer_instance) (by infer_instance) (by assumption)) ?_ | refine Go.Rn.Asy.evV rfl rfl rfl rfl (fun _ X_ => Go.Sg.lk2n rfl rfl (by assumption) Go.Sg.xt (by infer_instance) (by infer_instance) (by assumption)) ?_ | refine Go.Rn.Asy.evV rfl rfl rfl rfl (fun _ X_ => Go.Sg.lk2 rfl rfl (by assumption) Go.Sg.xt (by infer_instance) (by infer_instance)) ?_ | refine Go.Rn.Asy.evV rfl rfl rfl rfl (fun _ X_ => Go.Sg.lk1s rfl rfl (by assumption) Go.Sg.xt (by infer_instance) (by infer_instance) (by assumption)) ?_ | refine Go.Rn.Asy.evV rfl rfl rfl rfl (fun _ X_ => Go.Sg.lk1n rfl rfl (by assumption) Go.Sg.xt (by infer_instance) (by infer_instance) (by assumption)) ?_ | refine Go.Rn.Asy.evV rfl rfl rfl rfl (fun _ X_ => Go.Sg.lk1 rfl rfl (by assumption) Go.Sg.xt (by infer_instance) (by infer_instance)) ?_ | refine Go.Rn.Asy.evV rfl rfl rfl rfl (fun _ X_ => Go.Rn.OpV.quo Tryz.tOk rfl rfl (by omega) (by omega) (by omega)) ?_))); refine Go.Rn.Asy.end_ (by decide +kernel) ?_; intro ω_ e_)))
      first
      | (refine Go.Rn.RunL.box rfl rfl rfl fun β_ ω_ a_ => ?_
         have e_ := a_.ext; have z_ := Go.Sg.zOf h_ (show Go.Rn.Blk _ β_ _ _ from a_.at_) rfl
         (repeat (first | ((with_reducible refine Go.Rn.RunLN.id ?_); first | with_reducible refine Go.Rn.RunLN.boolT rfl ?_ | with_reducible refine Go.Rn.RunLN.boolF rfl ?_ | (with_reducible refine Go.Rn.RunLN.chk ?_; refine Go.Rn.RunLN.int (by (first | (refine Go.Rn.wr_i64 ?_ ?_; omega; omega) | (refine Go.Rn.wm_i64 ?_; omega) | (refine Go.Rn.wq_i64 ?_ ?_ ?_; omega; omega; omega) | rfl)) ?_) | with_reducible refine Go.Rn.RunLN.anyX rfl ?_ | refine Go.Rn.RunLN.boolT (by assumption) ?_ | refine Go.Rn.RunLN.boolF (by assumption) ?_ | with_reducible refine Go.Rn.RunLN.eqT rfl ?_ | with_reducible refine Go.Rn.RunLN.neF rfl ?_ | (with_reducible refine Go.Rn.RunLN.decT ?_ ?_; focus omega) | (with_reducible refine Go.Rn.RunLN.decF ?_ ?_; focus omega) | (with_reducible refine Go.Rn.RunLN.eqT ?_ ?_; focus omega) | (with_reducible refine Go.Rn.RunLN.eqF ?_ ?_; focus omega) | (with_reducible refine Go.Rn.RunLN.neT ?_ ?_; focus omega) | (with_reducible refine Go.Rn.RunLN.neF ?_ ?_; focus omega) | refine Go.Rn.RunLN.boolT (by exact rfl) ?_ | refine Go.Rn.RunLN.boolF (by exact rfl) ?_ | ((fail_if_success refine Go.Rn.RunLN.isB ?_); refine Go.Rn.RunLN.any ?_)) | ((with_reducible refine Go.Rn.RunL.id ?_); first | refine Go.Rn.RunL.many Tryz.tOk rfl ?_ | refine Go.Rn.RunL.ev Tryz.tOk rfl rfl rfl ?_ | refine Go.Rn.RunL.unwantedD rfl rfl ?_ | refine Go.Rn.RunL.evV rfl rfl rfl (Go.Rn.OpV.load1 Tryz.tOk rfl rfl rfl (Go.Sg.ldB (by assumption) (by exact rfl) Go.Sg.xt)) ?_ | refine Go.Sg.pfN rfl rfl rfl ?_ | refine Go.Sg.pvN rfl rfl rfl rfl rfl (by infer_instance) ?_ | refine Go.Rn.RunL.evV rfl rfl rfl (Go.Sg.eqf rfl rfl (by infer_instance)) ?_ | refine Go.Rn.RunL.evV rfl rfl rfl (Go.Rn.OpV.loadQ Tryz.tOk rfl rfl rfl (Go.Sg.ldN (by assumption) Go.Sg.xt) (by exact rfl)) ?_ | refine Go.Rn.RunL.evV rfl rfl rfl (Go.Rn.OpV.load1 Tryz.tOk rfl rfl rfl (Go.Sg.ldR0 (by assumption) Go.Sg.xt)) ?_ | refine Go.Rn.RunL.evV rfl rfl rfl (Go.Rn.OpV.load1 Tryz.tOk rfl rfl rfl (Go.Sg.ldR (by assumption) (by exact rfl) Go.Sg.xt)) ?_ | refine Go.Rn.RunL.evV rfl rfl rfl (Go.Rn.OpV.loadQ Tryz.tOk rfl rfl rfl (Go.Sg.ldRN (by assumption) Go.Sg.xt) (by exact rfl)) ?_ | refine Go.Rn.RunL.evV rfl rfl rfl (Go.Rn.OpV.lenSl Tryz.tOk rfl rfl (by assumption)) ?_ | refine Go.Rn.RunL.evV rfl rfl rfl (Go.Rn.OpV.indexS Tryz.tOk _ rfl rfl rfl rfl (by omega)) ?_ | refine Go.Rn.RunL.evV rfl rfl rfl (Go.Sg.lk2s rfl rfl (by assumption) Go.Sg.xt (by infer_instance) (by infer_instance) (by assumption)) ?_ | refine Go.Rn.RunL.evV rfl rfl rfl (Go.Sg.lk2n rfl rfl (by assumption) Go.Sg.xt (by infer_instance) (by infer_instance) (by assumption)) ?_ | refine Go.Rn.RunL.evV rfl rfl rfl (Go.Sg.lk2 rfl rfl (by assumption) Go.Sg.xt (by infer_instance) (by infer_instance)) ?_ | refine Go.Rn.RunL.evV rfl rfl rfl (Go.Sg.lk1s rfl rfl (by assumption) Go.Sg.xt (by infer_instance) (by infer_instance) (by assumption)) ?_ | refine Go.Rn.RunL.evV rfl rfl rfl (Go.Sg.lk1n rfl rfl (by assumption) Go.Sg.xt (by infer_instance) (by infer_instance) (by assumption)) ?_ | refine Go.Rn.RunL.evV rfl rfl rfl (Go.Sg.lk1 rfl rfl (by assumption) Go.Sg.xt (by infer_instance) (by infer_instance)) ?_ | refine Go.Rn.RunL.evV rfl rfl rfl (Go.Rn.OpV.quo Tryz.tOk rfl rfl (by omega) (by omega) (by omega)) ?_ | refine Go.Rn.RunL.unwantedN rfl ?_ | refine Go.Rn.RunL.nil ?_) | refine Go.Rn.RunE.condT rfl rfl ?_ | refine Go.Rn.RunE.condF rfl rfl ?_ | refine Go.Rn.RunE.seq ?_ | refine Go.Rn.RunE.region ?_ | refine Go.Rn.RunE.block ?_ | refine Go.Rn.RunE.inBlock ?_ | refine Go.Rn.RunE.skip ?_ | refine Go.Rn.RunE.exit rfl ?_ | refine Go.Rn.RunE.scope ?_ | refine Go.Rn.RunE.inScope ?_ | refine Go.Rn.RunE.label ?_ | (refine Go.Sg.pxN rfl rfl rfl ?_; intro ω_ e_) | (refine Go.Sg.pvX rfl rfl rfl rfl rfl (by infer_instance) ?_; intro ω_ e_) | (refine Go.Sg.bsI rfl rfl rfl rfl rfl rfl ?_; intro β0_ ω_ e_ g0_ z0_) | (refine Go.Sg.plN rfl rfl rfl rfl rfl rfl (by infer_instance) (by assumption) Go.Sg.xt rfl ?_; intro ω_ e_) | (refine Go.Rn.RunE.draw (fun _ => False) mix ?_; intro ω_ e_; (repeat (first | ((with_reducible refine Go.Rn.AsyN.id ?_); first | with_reducible refine Go.Rn.AsyN.boolT rfl ?_ | with_reducible refine Go.Rn.AsyN.boolF rfl ?_ | (with_reducible refine Go.Rn.AsyN.chk ?_; refine Go.Rn.AsyN.int (by (first | (refine Go.Rn.wr_i64 ?_ ?_; omega; omega) | (refine Go.Rn.wm_i64 ?_; omega) | (refine Go.Rn.wq_i64 ?_ ?_ ?_; omega; omega; omega) | rfl)) ?_) | with_reducible refine Go.Rn.AsyN.anyX rfl ?_ | refine Go.Rn.AsyN.boolT (by assumption) ?_ | refine Go.Rn.AsyN.boolF (by assumption) ?_ | with_reducible refine Go.Rn.AsyN.eqT rfl ?_ | with_reducible refine Go.Rn.AsyN.neF rfl ?_ | (with_reducible refine Go.Rn.AsyN.decT ?_ ?_; focus omega) | (with_reducible refine Go.Rn.AsyN.decF ?_ ?_; focus omega) | (with_reducible refine Go.Rn.AsyN.eqT ?_ ?_; focus omega) | (with_reducible refine Go.Rn.AsyN.eqF ?_ ?_; focus omega) | (with_reducible refine Go.Rn.AsyN.neT ?_ ?_; focus omega) | (with_reducible refine Go.Rn.AsyN.neF ?_ ?_; focus omega) | refine Go.Rn.AsyN.boolT (by exact rfl) ?_ | refine Go.Rn.AsyN.boolF (by exact rfl) ?_ | refine Go.Rn.AsyN.any ?_) | ((with_reducible refine Go.Rn.Asy.id ?_); first | refine Go.Rn.Asy.ev Tryz.tOk rfl rfl rfl ?_ | refine Go.Rn.Asy.unwantedD rfl rfl rfl ?_ | refine Go.Rn.Asy.evV rfl rfl rfl rfl (fun _ X_ => Go.Rn.OpV.load1 Tryz.tOk rfl rfl rfl (Go.Sg.ldS (by assumption) (by exact rfl) X_)) ?_ | refine Go.Rn.Asy.evV rfl rfl rfl rfl (fun _ X_ => Go.Rn.OpV.loadQ Tryz.tOk rfl rfl rfl (Go.Sg.ldNS (by assumption) X_) (by exact rfl)) ?_ | refine Go.Rn.Asy.evV rfl rfl rfl rfl (fun _ X_ => Go.Sg.lk1S rfl rfl (by assumption) X_ (by infer_instance) (by infer_instance)) ?_ | refine Go.Rn.Asy.evV rfl rfl rfl rfl (fun _ X_ => Go.Rn.OpV.load1 Tryz.tOk rfl rfl rfl (Go.Sg.ldB (by assumption) (by exact rfl) Go.Sg.xt)) ?_ | refine Go.Sg.pfA rfl rfl rfl ?_ | refine Go.Sg.pfX rfl rfl rfl ?_ | refine Go.Sg.pvA rfl rfl rfl rfl rfl (by infer_instance) ?_ | refine Go.Rn.Asy.evV rfl rfl rfl rfl (fun _ X_ => Go.Sg.eqf rfl rfl (by infer_instance)) ?_ | refine Go.Rn.Asy.evV rfl rfl rfl rfl (fun _ X_ => Go.Rn.OpV.loadQ Tryz.tOk rfl rfl rfl (Go.Sg.ldN (by assumption) Go.Sg.xt) (by exact rfl)) ?_ | refine Go.Rn.Asy.evV rfl rfl rfl rfl (fun _ X_ => Go.Rn.OpV.load1 Tryz.tOk rfl rfl rfl (Go.Sg.ldR0 (by assumption) Go.Sg.xt)) ?_ | refine Go.Rn.Asy.evV rfl rfl rfl rfl (fun _ X_ => Go.Rn.OpV.load1 Tryz.tOk rfl rfl rfl (Go.Sg.ldR (by assumption) (by exact rfl) Go.Sg.xt)) ?_ | refine Go.Rn.Asy.evV rfl rfl rfl rfl (fun _ X_ => Go.Rn.OpV.loadQ Tryz.tOk rfl rfl rfl (Go.Sg.ldRN (by assumption) Go.Sg.xt) (by exact rfl)) ?_ | refine Go.Rn.Asy.evV rfl rfl rfl rfl (fun _ X_ => Go.Rn.OpV.lenSl Tryz.tOk rfl rfl (by assumption)) ?_ | refine Go.Rn.Asy.evV rfl rfl rfl rfl (fun _ X_ => Go.Rn.OpV.indexS Tryz.tOk _ rfl rfl rfl rfl (by omega)) ?_ | refine Go.Rn.Asy.evV rfl rfl rfl rfl (fun _ X_ => Go.Sg.lk2s rfl rfl (by assumption) Go.Sg.xt (by infer_instance) (by infer_instance) (by assumption)) ?_ | refine Go.Rn.Asy.evV rfl rfl rfl rfl (fun _ X_ => Go.Sg.lk2n rfl rfl (by assumption) Go.Sg.xt (by infer_instance) (by infer_instance) (by assumption)) ?_ | refine Go.Rn.Asy.evV rfl rfl rfl rfl (fun _ X_ => Go.Sg.lk2 rfl rfl (by assumption) Go.Sg.xt (by infer_instance) (by infer_instance)) ?_ | refine Go.Rn.Asy.evV rfl rfl rfl rfl (fun _ X_ => Go.Sg.lk1s rfl rfl (by assumption) Go.Sg.xt (by infer_instance) (by infer_instance) (by assumption)) ?_ | refine Go.Rn.Asy.evV rfl rfl rfl rfl (fun _ X_ => Go.Sg.lk1n rfl rfl (by assumption) Go.Sg.xt (by infer_instance) (by infer_instance) (by assumption)) ?_ | refine Go.Rn.Asy.evV rfl rfl rfl rfl (fun _ X_ => Go.Sg.lk1 rfl rfl (by assumption) Go.Sg.xt (by infer_instance) (by infer_instance)) ?_ | refine Go.Rn.Asy.evV rfl rfl rfl rfl (fun _ X_ => Go.Rn.OpV.quo Tryz.tOk rfl rfl (by omega) (by omega) (by omega)) ?_))); refine Go.Rn.Asy.end_ (by decide +kernel) ?_; intro ω_ e_)))
         exact h_ β_ ω_ Go.Sg.xt (Go.Rn.Added.ge a_ Go.Sg.xt) (Go.Rn.Blk.up z_ Go.Sg.xt))
      | (refine Go.Rn.RunL.alloc Tryz.tOk rfl rfl rfl fun β_ ω_ a_ => ?_
         (repeat (first | ((with_reducible refine Go.Rn.RunLN.id ?_); first | with_reducible refine Go.Rn.RunLN.boolT rfl ?_ | with_reducible refine Go.Rn.RunLN.boolF rfl ?_ | (with_reducible refine Go.Rn.RunLN.chk ?_; refine Go.Rn.RunLN.int (by (first | (refine Go.Rn.wr_i64 ?_ ?_; omega; omega) | (refine Go.Rn.wm_i64 ?_; omega) | (refine Go.Rn.wq_i64 ?_ ?_ ?_; omega; omega; omega) | rfl)) ?_) | with_reducible refine Go.Rn.RunLN.anyX rfl ?_ | refine Go.Rn.RunLN.boolT (by assumption) ?_ | refine Go.Rn.RunLN.boolF (by assumption) ?_ | with_reducible refine Go.Rn.RunLN.eqT rfl ?_ | with_reducible refine Go.Rn.RunLN.neF rfl ?_ | (with_reducible refine Go.Rn.RunLN.decT ?_ ?_; focus omega) | (with_reducible refine Go.Rn.RunLN.decF ?_ ?_; focus omega) | (with_reducible refine Go.Rn.RunLN.eqT ?_ ?_; focus omega) | (with_reducible refine Go.Rn.RunLN.eqF ?_ ?_; focus omega) | (with_reducible refine Go.Rn.RunLN.neT ?_ ?_; focus omega) | (with_reducible refine Go.Rn.RunLN.neF ?_ ?_; focus omega) | refine Go.Rn.RunLN.boolT (by exact rfl) ?_ | refine Go.Rn.RunLN.boolF (by exact rfl) ?_ | refine Go.Rn.RunLN.any ?_) | ((with_reducible refine Go.Rn.RunL.id ?_); first | refine Go.Rn.RunL.many Tryz.tOk rfl ?_ | refine Go.Rn.RunL.ev Tryz.tOk rfl rfl rfl ?_ | refine Go.Rn.RunL.unwantedD rfl rfl ?_ | refine Go.Rn.RunL.evV rfl rfl rfl (Go.Rn.OpV.load1 Tryz.tOk rfl rfl rfl (Go.Sg.ldB (by assumption) (by exact rfl) Go.Sg.xt)) ?_ | refine Go.Sg.pfN rfl rfl rfl ?_ | refine Go.Sg.pvN rfl rfl rfl rfl rfl (by infer_instance) ?_ | refine Go.Rn.RunL.evV rfl rfl rfl (Go.Sg.eqf rfl rfl (by infer_instance)) ?_ | refine Go.Rn.RunL.evV rfl rfl rfl (Go.Rn.OpV.loadQ Tryz.tOk rfl rfl rfl (Go.Sg.ldN (by assumption) Go.Sg.xt) (by exact rfl)) ?_ | refine Go.Rn.RunL.evV rfl rfl rfl (Go.Rn.OpV.load1 Tryz.tOk rfl rfl rfl (Go.Sg.ldR0 (by assumption) Go.Sg.xt)) ?_ | refine Go.Rn.RunL.evV rfl rfl rfl (Go.Rn.OpV.load1 Tryz.tOk rfl rfl rfl (Go.Sg.ldR (by assumption) (by exact rfl) Go.Sg.xt)) ?_ | refine Go.Rn.RunL.evV rfl rfl rfl (Go.Rn.OpV.loadQ Tryz.tOk rfl rfl rfl (Go.Sg.ldRN (by assumption) Go.Sg.xt) (by exact rfl)) ?_ | refine Go.Rn.RunL.evV rfl rfl rfl (Go.Rn.OpV.lenSl Tryz.tOk rfl rfl (by assumption)) ?_ | refine Go.Rn.RunL.evV rfl rfl rfl (Go.Rn.OpV.indexS Tryz.tOk _ rfl rfl rfl rfl (by omega)) ?_ | refine Go.Rn.RunL.evV rfl rfl rfl (Go.Sg.lk2s rfl rfl (by assumption) Go.Sg.xt (by infer_instance) (by infer_instance) (by assumption)) ?_ | refine Go.Rn.RunL.evV rfl rfl rfl (Go.Sg.lk2n rfl rfl (by assumption) Go.Sg.xt (by infer_instance) (by infer_instance) (by assumption)) ?_ | refine Go.Rn.RunL.evV rfl rfl rfl (Go.Sg.lk2 rfl rfl (by assumption) Go.Sg.xt (by infer_instance) (by infer_instance)) ?_ | refine Go.Rn.RunL.evV rfl rfl rfl (Go.Sg.lk1s rfl rfl (by assumption) Go.Sg.xt (by infer_instance) (by infer_instance) (by assumption)) ?_ | refine Go.Rn.RunL.evV rfl rfl rfl (Go.Sg.lk1n rfl rfl (by assumption) Go.Sg.xt (by infer_instance) (by infer_instance) (by assumption)) ?_ | refine Go.Rn.RunL.evV rfl rfl rfl (Go.Sg.lk1 rfl rfl (by assumption) Go.Sg.xt (by infer_instance) (by infer_instance)) ?_ | refine Go.Rn.RunL.evV rfl rfl rfl (Go.Rn.OpV.quo Tryz.tOk rfl rfl (by omega) (by omega) (by omega)) ?_ | refine Go.Rn.RunL.unwantedN rfl ?_ | refine Go.Rn.RunL.nil ?_) | refine Go.Rn.RunE.condT rfl rfl ?_ | refine Go.Rn.RunE.condF rfl rfl ?_ | refine Go.Rn.RunE.seq ?_ | refine Go.Rn.RunE.region ?_ | refine Go.Rn.RunE.block ?_ | refine Go.Rn.RunE.inBlock ?_ | refine Go.Rn.RunE.skip ?_ | refine Go.Rn.RunE.exit rfl ?_ | refine Go.Rn.RunE.scope ?_ | refine Go.Rn.RunE.inScope ?_ | refine Go.Rn.RunE.label ?_))
         first
         | (refine Go.Rn.RunL.storeW Tryz.tOk rfl rfl rfl rfl rfl (show Go.Rn.Blk _ β_ _ _ from a_.at_) rfl rfl fun ω_ t_ => ?_
            replace a_ := Go.Rn.Added.turn a_ t_; clear t_
            have e_ := a_.ext; have z_ := Go.Sg.zOf h_ (show Go.Rn.Blk _ β_ _ _ from a_.at_) rfl
            (repeat (first | ((with_reducible refine Go.Rn.RunLN.id ?_); first | with_reducible refine Go.Rn.RunLN.boolT rfl ?_ | with_reducible refine Go.Rn.RunLN.boolF rfl ?_ | (with_reducible refine Go.Rn.RunLN.chk ?_; refine Go.Rn.RunLN.int (by (first | (refine Go.Rn.wr_i64 ?_ ?_; omega; omega) | (refine Go.Rn.wm_i64 ?_; omega) | (refine Go.Rn.wq_i64 ?_ ?_ ?_; omega; omega; omega) | rfl)) ?_) | with_reducible refine Go.Rn.RunLN.anyX rfl ?_ | refine Go.Rn.RunLN.boolT (by assumption) ?_ | refine Go.Rn.RunLN.boolF (by assumption) ?_ | with_reducible refine Go.Rn.RunLN.eqT rfl ?_ | with_reducible refine Go.Rn.RunLN.neF rfl ?_ | (with_reducible refine Go.Rn.RunLN.decT ?_ ?_; focus omega) | (with_reducible refine Go.Rn.RunLN.decF ?_ ?_; focus omega) | (with_reducible refine Go.Rn.RunLN.eqT ?_ ?_; focus omega) | (with_reducible refine Go.Rn.RunLN.eqF ?_ ?_; focus omega) | (with_reducible refine Go.Rn.RunLN.neT ?_ ?_; focus omega) | (with_reducible refine Go.Rn.RunLN.neF ?_ ?_; focus omega) | refine Go.Rn.RunLN.boolT (by exact rfl) ?_ | refine Go.Rn.RunLN.boolF (by exact rfl) ?_ | ((fail_if_success refine Go.Rn.RunLN.isB ?_); refine Go.Rn.RunLN.any ?_)) | ((with_reducible refine Go.Rn.RunL.id ?_); first | refine Go.Rn.RunL.many Tryz.tOk rfl ?_ | refine Go.Rn.RunL.ev Tryz.tOk rfl rfl rfl ?_ | refine Go.Rn.RunL.unwantedD rfl rfl ?_ | refine Go.Rn.RunL.evV rfl rfl rfl (Go.Rn.OpV.load1 Tryz.tOk rfl rfl rfl (Go.Sg.ldB (by assumption) (by exact rfl) Go.Sg.xt)) ?_ | refine Go.Sg.pfN rfl rfl rfl ?_ | refine Go.Sg.pvN rfl rfl rfl rfl rfl (by infer_instance) ?_ | refine Go.Rn.RunL.evV rfl rfl rfl (Go.Sg.eqf rfl rfl (by infer_instance)) ?_ | refine Go.Rn.RunL.evV rfl rfl rfl (Go.Rn.OpV.loadQ Tryz.tOk rfl rfl rfl (Go.Sg.ldN (by assumption) Go.Sg.xt) (by exact rfl)) ?_ | refine Go.Rn.RunL.evV rfl rfl rfl (Go.Rn.OpV.load1 Tryz.tOk rfl rfl rfl (Go.Sg.ldR0 (by assumption) Go.Sg.xt)) ?_ | refine Go.Rn.RunL.evV rfl rfl rfl (Go.Rn.OpV.load1 Tryz.tOk rfl rfl rfl (Go.Sg.ldR (by assumption) (by exact rfl) Go.Sg.xt)) ?_ | refine Go.Rn.RunL.evV rfl rfl rfl (Go.Rn.OpV.loadQ Tryz.tOk rfl rfl rfl (Go.Sg.ldRN (by assumption) Go.Sg.xt) (by exact rfl)) ?_ | refine Go.Rn.RunL.evV rfl rfl rfl (Go.Rn.OpV.lenSl Tryz.tOk rfl rfl (by assumption)) ?_ | refine Go.Rn.RunL.evV rfl rfl rfl (Go.Rn.OpV.indexS Tryz.tOk _ rfl rfl rfl rfl (by omega)) ?_ | refine Go.Rn.RunL.evV rfl rfl rfl (Go.Sg.lk2s rfl rfl (by assumption) Go.Sg.xt (by infer_instance) (by infer_instance) (by assumption)) ?_ | refine Go.Rn.RunL.evV rfl rfl rfl (Go.Sg.lk2n rfl rfl (by assumption) Go.Sg.xt (by infer_instance) (by infer_instance) (by assumption)) ?_ | refine Go.Rn.RunL.evV rfl rfl rfl (Go.Sg.lk2 rfl rfl (by assumption) Go.Sg.xt (by infer_instance) (by infer_instance)) ?_ | refine Go.Rn.RunL.evV rfl rfl rfl (Go.Sg.lk1s rfl rfl (by assumption) Go.Sg.xt (by infer_instance) (by infer_instance) (by assumption)) ?_ | refine Go.Rn.RunL.evV rfl rfl rfl (Go.Sg.lk1n rfl rfl (by assumption) Go.Sg.xt (by infer_instance) (by infer_instance) (by assumption)) ?_ | refine Go.Rn.RunL.evV rfl rfl rfl (Go.Sg.lk1 rfl rfl (by assumption) Go.Sg.xt (by infer_instance) (by infer_instance)) ?_ | refine Go.Rn.RunL.evV rfl rfl rfl (Go.Rn.OpV.quo Tryz.tOk rfl rfl (by omega) (by omega) (by omega)) ?_ | refine Go.Rn.RunL.unwantedN rfl ?_ | refine Go.Rn.RunL.nil ?_) | refine Go.Rn.RunE.condT rfl rfl ?_ | refine Go.Rn.RunE.condF rfl rfl ?_ | refine Go.Rn.RunE.seq ?_ | refine Go.Rn.RunE.region ?_ | refine Go.Rn.RunE.block ?_ | refine Go.Rn.RunE.inBlock ?_ | refine Go.Rn.RunE.skip ?_ | refine Go.Rn.RunE.exit rfl ?_ | refine Go.Rn.RunE.scope ?_ | refine Go.Rn.RunE.inScope ?_ | refine Go.Rn.RunE.label ?_ | (refine Go.Sg.pxN rfl rfl rfl ?_; intro ω_ e_) | (refine Go.Sg.pvX rfl rfl rfl rfl rfl (by infer_instance) ?_; intro ω_ e_) | (refine Go.Sg.bsI rfl rfl rfl rfl rfl rfl ?_; intro β0_ ω_ e_ g0_ z0_) | (refine Go.Sg.plN rfl rfl rfl rfl rfl rfl (by infer_instance) (by assumption) Go.Sg.xt rfl ?_; intro ω_ e_) | (refine Go.Rn.RunE.draw (fun _ => False) mix ?_; intro ω_ e_; (repeat (first | ((with_reducible refine Go.Rn.AsyN.id ?_); first | with_reducible refine Go.Rn.AsyN.boolT rfl ?_ | with_reducible refine Go.Rn.AsyN.boolF rfl ?_ | (with_reducible refine Go.Rn.AsyN.chk ?_; refine Go.Rn.AsyN.int (by (first | (refine Go.Rn.wr_i64 ?_ ?_; omega; omega) | (refine Go.Rn.wm_i64 ?_; omega) | (refine Go.Rn.wq_i64 ?_ ?_ ?_; omega; omega; omega) | rfl)) ?_) | with_reducible refine Go.Rn.AsyN.anyX rfl ?_ | refine Go.Rn.AsyN.boolT (by assumption) ?_ | refine Go.Rn.AsyN.boolF (by assumption) ?_ | with_reducible refine Go.Rn.AsyN.eqT rfl ?_ | with_reducible refine Go.Rn.AsyN.neF rfl ?_ | (with_reducible refine Go.Rn.AsyN.decT ?_ ?_; focus omega) | (with_reducible refine Go.Rn.AsyN.decF ?_ ?_; focus omega) | (with_reducible refine Go.Rn.AsyN.eqT ?_ ?_; focus omega) | (with_reducible refine Go.Rn.AsyN.eqF ?_ ?_; focus omega) | (with_reducible refine Go.Rn.AsyN.neT ?_ ?_; focus omega) | (with_reducible refine Go.Rn.AsyN.neF ?_ ?_; focus omega) | refine Go.Rn.AsyN.boolT (by exact rfl) ?_ | refine Go.Rn.AsyN.boolF (by exact rfl) ?_ | refine Go.Rn.AsyN.any ?_) | ((with_reducible refine Go.Rn.Asy.id ?_); first | refine Go.Rn.Asy.ev Tryz.tOk rfl rfl rfl ?_ | refine Go.Rn.Asy.unwantedD rfl rfl rfl ?_ | refine Go.Rn.Asy.evV rfl rfl rfl rfl (fun _ X_ => Go.Rn.OpV.load1 Tryz.tOk rfl rfl rfl (Go.Sg.ldS (by assumption) (by exact rfl) X_)) ?_ | refine Go.Rn.Asy.evV rfl rfl rfl rfl (fun _ X_ => Go.Rn.OpV.loadQ Tryz.tOk rfl rfl rfl (Go.Sg.ldNS (by assumption) X_) (by exact rfl)) ?_ | refine Go.Rn.Asy.evV rfl rfl rfl rfl (fun _ X_ => Go.Sg.lk1S rfl rfl (by assumption) X_ (by infer_instance) (by infer_instance)) ?_ | refine Go.Rn.Asy.evV rfl rfl rfl rfl (fun _ X_ => Go.Rn.OpV.load1 Tryz.tOk rfl rfl rfl (Go.Sg.ldB (by assumption) (by exact rfl) Go.Sg.xt)) ?_ | refine Go.Sg.pfA rfl rfl rfl ?_ | refine Go.Sg.pfX rfl rfl rfl ?_ | refine Go.Sg.pvA rfl rfl rfl rfl rfl (by infer_instance) ?_ | refine Go.Rn.Asy.evV rfl rfl rfl rfl (fun _ X_ => Go.Sg.eqf rfl rfl (by infer_instance)) ?_ | refine Go.Rn.Asy.evV rfl rfl rfl rfl (fun _ X_ => Go.Rn.OpV.loadQ Tryz.tOk rfl rfl rfl (Go.Sg.ldN (by assumption) Go.Sg.xt) (by exact rfl)) ?_ | refine Go.Rn.Asy.evV rfl rfl rfl rfl (fun _ X_ => Go.Rn.OpV.load1 Tryz.tOk rfl rfl rfl (Go.Sg.ldR0 (by assumption) Go.Sg.xt)) ?_ | refine Go.Rn.Asy.evV rfl rfl rfl rfl (fun _ X_ => Go.Rn.OpV.load1 Tryz.tOk rfl rfl rfl (Go.Sg.ldR (by assumption) (by exact rfl) Go.Sg.xt)) ?_ | refine Go.Rn.Asy.evV rfl rfl rfl rfl (fun _ X_ => Go.Rn.OpV.loadQ Tryz.tOk rfl rfl rfl (Go.Sg.ldRN (by assumption) Go.Sg.xt) (by exact rfl)) ?_ | refine Go.Rn.Asy.evV rfl rfl rfl rfl (fun _ X_ => Go.Rn.OpV.lenSl Tryz.tOk rfl rfl (by assumption)) ?_ | refine Go.Rn.Asy.evV rfl rfl rfl rfl (fun _ X_ => Go.Rn.OpV.indexS Tryz.tOk _ rfl rfl rfl rfl (by omega)) ?_ | refine Go.Rn.Asy.evV rfl rfl rfl rfl (fun _ X_ => Go.Sg.lk2s rfl rfl (by assumption) Go.Sg.xt (by infer_instance) (by infer_instance) (by assumption)) ?_ | refine Go.Rn.Asy.evV rfl rfl rfl rfl (fun _ X_ => Go.Sg.lk2n rfl rfl (by assumption) Go.Sg.xt (by infer_instance) (by infer_instance) (by assumption)) ?_ | refine Go.Rn.Asy.evV rfl rfl rfl rfl (fun _ X_ => Go.Sg.lk2 rfl rfl (by assumption) Go.Sg.xt (by infer_instance) (by infer_instance)) ?_ | refine Go.Rn.Asy.evV rfl rfl rfl rfl (fun _ X_ => Go.Sg.lk1s rfl rfl (by assumption) Go.Sg.xt (by infer_instance) (by infer_instance) (by assumption)) ?_ | refine Go.Rn.Asy.evV rfl rfl rfl rfl (fun _ X_ => Go.Sg.lk1n rfl rfl (by assumption) Go.Sg.xt (by infer_instance) (by infer_instance) (by assumption)) ?_ | refine Go.Rn.Asy.evV rfl rfl rfl rfl (fun _ X_ => Go.Sg.lk1 rfl rfl (by assumption) Go.Sg.xt (by infer_instance) (by infer_instance)) ?_ | refine Go.Rn.Asy.evV rfl rfl rfl rfl (fun _ X_ => Go.Rn.OpV.quo Tryz.tOk rfl rfl (by omega) (by omega) (by omega)) ?_))); refine Go.Rn.Asy.end_ (by decide +kernel) ?_; intro ω_ e_)))
            exact h_ β_ ω_ Go.Sg.xt (Go.Rn.Added.ge a_ Go.Sg.xt) (Go.Rn.Blk.up z_ Go.Sg.xt))
         | (refine Go.Rn.RunL.store Tryz.tOk rfl rfl rfl rfl rfl (show Go.Rn.Blk _ β_ _ _ from a_.at_) rfl rfl fun ω_ t_ => ?_
            replace a_ := Go.Rn.Added.turn a_ t_; clear t_
            have e_ := a_.ext; have z_ := Go.Sg.zOf h_ (show Go.Rn.Blk _ β_ _ _ from a_.at_) rfl
            (repeat (first | ((with_reducible refine Go.Rn.RunLN.id ?_); first | with_reducible refine Go.Rn.RunLN.boolT rfl ?_ | with_reducible refine Go.Rn.RunLN.boolF rfl ?_ | (with_reducible refine Go.Rn.RunLN.chk ?_; refine Go.Rn.RunLN.int (by (first | (refine Go.Rn.wr_i64 ?_ ?_; omega; omega) | (refine Go.Rn.wm_i64 ?_; omega) | (refine Go.Rn.wq_i64 ?_ ?_ ?_; omega; omega; omega) | rfl)) ?_) | with_reducible refine Go.Rn.RunLN.anyX rfl ?_ | refine Go.Rn.RunLN.boolT (by assumption) ?_ | refine Go.Rn.RunLN.boolF (by assumption) ?_ | with_reducible refine Go.Rn.RunLN.eqT rfl ?_ | with_reducible refine Go.Rn.RunLN.neF rfl ?_ | (with_reducible refine Go.Rn.RunLN.decT ?_ ?_; focus omega) | (with_reducible refine Go.Rn.RunLN.decF ?_ ?_; focus omega) | (with_reducible refine Go.Rn.RunLN.eqT ?_ ?_; focus omega) | (with_reducible refine Go.Rn.RunLN.eqF ?_ ?_; focus omega) | (with_reducible refine Go.Rn.RunLN.neT ?_ ?_; focus omega) | (with_reducible refine Go.Rn.RunLN.neF ?_ ?_; focus omega) | refine Go.Rn.RunLN.boolT (by exact rfl) ?_ | refine Go.Rn.RunLN.boolF (by exact rfl) ?_ | ((fail_if_success refine Go.Rn.RunLN.isB ?_); refine Go.Rn.RunLN.any ?_)) | ((with_reducible refine Go.Rn.RunL.id ?_); first | refine Go.Rn.RunL.many Tryz.tOk rfl ?_ | refine Go.Rn.RunL.ev Tryz.tOk rfl rfl rfl ?_ | refine Go.Rn.RunL.unwantedD rfl rfl ?_ | refine Go.Rn.RunL.evV rfl rfl rfl (Go.Rn.OpV.load1 Tryz.tOk rfl rfl rfl (Go.Sg.ldB (by assumption) (by exact rfl) Go.Sg.xt)) ?_ | refine Go.Sg.pfN rfl rfl rfl ?_ | refine Go.Sg.pvN rfl rfl rfl rfl rfl (by infer_instance) ?_ | refine Go.Rn.RunL.evV rfl rfl rfl (Go.Sg.eqf rfl rfl (by infer_instance)) ?_ | refine Go.Rn.RunL.evV rfl rfl rfl (Go.Rn.OpV.loadQ Tryz.tOk rfl rfl rfl (Go.Sg.ldN (by assumption) Go.Sg.xt) (by exact rfl)) ?_ | refine Go.Rn.RunL.evV rfl rfl rfl (Go.Rn.OpV.load1 Tryz.tOk rfl rfl rfl (Go.Sg.ldR0 (by assumption) Go.Sg.xt)) ?_ | refine Go.Rn.RunL.evV rfl rfl rfl (Go.Rn.OpV.load1 Tryz.tOk rfl rfl rfl (Go.Sg.ldR (by assumption) (by exact rfl) Go.Sg.xt)) ?_ | refine Go.Rn.RunL.evV rfl rfl rfl (Go.Rn.OpV.loadQ Tryz.tOk rfl rfl rfl (Go.Sg.ldRN (by assumption) Go.Sg.xt) (by exact rfl)) ?_ | refine Go.Rn.RunL.evV rfl rfl rfl (Go.Rn.OpV.lenSl Tryz.tOk rfl rfl (by assumption)) ?_ | refine Go.Rn.RunL.evV rfl rfl rfl (Go.Rn.OpV.indexS Tryz.tOk _ rfl rfl rfl rfl (by omega)) ?_ | refine Go.Rn.RunL.evV rfl rfl rfl (Go.Sg.lk2s rfl rfl (by assumption) Go.Sg.xt (by infer_instance) (by infer_instance) (by assumption)) ?_ | refine Go.Rn.RunL.evV rfl rfl rfl (Go.Sg.lk2n rfl rfl (by assumption) Go.Sg.xt (by infer_instance) (by infer_instance) (by assumption)) ?_ | refine Go.Rn.RunL.evV rfl rfl rfl (Go.Sg.lk2 rfl rfl (by assumption) Go.Sg.xt (by infer_instance) (by infer_instance)) ?_ | refine Go.Rn.RunL.evV rfl rfl rfl (Go.Sg.lk1s rfl rfl (by assumption) Go.Sg.xt (by infer_instance) (by infer_instance) (by assumption)) ?_ | refine Go.Rn.RunL.evV rfl rfl rfl (Go.Sg.lk1n rfl rfl (by assumption) Go.Sg.xt (by infer_instance) (by infer_instance) (by assumption)) ?_ | refine Go.Rn.RunL.evV rfl rfl rfl (Go.Sg.lk1 rfl rfl (by assumption) Go.Sg.xt (by infer_instance) (by infer_instance)) ?_ | refine Go.Rn.RunL.evV rfl rfl rfl (Go.Rn.OpV.quo Tryz.tOk rfl rfl (by omega) (by omega) (by omega)) ?_ | refine Go.Rn.RunL.unwantedN rfl ?_ | refine Go.Rn.RunL.nil ?_) | refine Go.Rn.RunE.condT rfl rfl ?_ | refine Go.Rn.RunE.condF rfl rfl ?_ | refine Go.Rn.RunE.seq ?_ | refine Go.Rn.RunE.region ?_ | refine Go.Rn.RunE.block ?_ | refine Go.Rn.RunE.inBlock ?_ | refine Go.Rn.RunE.skip ?_ | refine Go.Rn.RunE.exit rfl ?_ | refine Go.Rn.RunE.scope ?_ | refine Go.Rn.RunE.inScope ?_ | refine Go.Rn.RunE.label ?_ | (refine Go.Sg.pxN rfl rfl rfl ?_; intro ω_ e_) | (refine Go.Sg.pvX rfl rfl rfl rfl rfl (by infer_instance) ?_; intro ω_ e_) | (refine Go.Sg.bsI rfl rfl rfl rfl rfl rfl ?_; intro β0_ ω_ e_ g0_ z0_) | (refine Go.Sg.plN rfl rfl rfl rfl rfl rfl (by infer_instance) (by assumption) Go.Sg.xt rfl ?_; intro ω_ e_) | (refine Go.Rn.RunE.draw (fun _ => False) mix ?_; intro ω_ e_; (repeat (first | ((with_reducible refine Go.Rn.AsyN.id ?_); first | with_reducible refine Go.Rn.AsyN.boolT rfl ?_ | with_reducible refine Go.Rn.AsyN.boolF rfl ?_ | (with_reducible refine Go.Rn.AsyN.chk ?_; refine Go.Rn.AsyN.int (by (first | (refine Go.Rn.wr_i64 ?_ ?_; omega; omega) | (refine Go.Rn.wm_i64 ?_; omega) | (refine Go.Rn.wq_i64 ?_ ?_ ?_; omega; omega; omega) | rfl)) ?_) | with_reducible refine Go.Rn.AsyN.anyX rfl ?_ | refine Go.Rn.AsyN.boolT (by assumption) ?_ | refine Go.Rn.AsyN.boolF (by assumption) ?_ | with_reducible refine Go.Rn.AsyN.eqT rfl ?_ | with_reducible refine Go.Rn.AsyN.neF rfl ?_ | (with_reducible refine Go.Rn.AsyN.decT ?_ ?_; focus omega) | (with_reducible refine Go.Rn.AsyN.decF ?_ ?_; focus omega) | (with_reducible refine Go.Rn.AsyN.eqT ?_ ?_; focus omega) | (with_reducible refine Go.Rn.AsyN.eqF ?_ ?_; focus omega) | (with_reducible refine Go.Rn.AsyN.neT ?_ ?_; focus omega) | (with_reducible refine Go.Rn.AsyN.neF ?_ ?_; focus omega) | refine Go.Rn.AsyN.boolT (by exact rfl) ?_ | refine Go.Rn.AsyN.boolF (by exact rfl) ?_ | refine Go.Rn.AsyN.any ?_) | ((with_reducible refine Go.Rn.Asy.id ?_); first | refine Go.Rn.Asy.ev Tryz.tOk rfl rfl rfl ?_ | refine Go.Rn.Asy.unwantedD rfl rfl rfl ?_ | refine Go.Rn.Asy.evV rfl rfl rfl rfl (fun _ X_ => Go.Rn.OpV.load1 Tryz.tOk rfl rfl rfl (Go.Sg.ldS (by assumption) (by exact rfl) X_)) ?_ | refine Go.Rn.Asy.evV rfl rfl rfl rfl (fun _ X_ => Go.Rn.OpV.loadQ Tryz.tOk rfl rfl rfl (Go.Sg.ldNS (by assumption) X_) (by exact rfl)) ?_ | refine Go.Rn.Asy.evV rfl rfl rfl rfl (fun _ X_ => Go.Sg.lk1S rfl rfl (by assumption) X_ (by infer_instance) (by infer_instance)) ?_ | refine Go.Rn.Asy.evV rfl rfl rfl rfl (fun _ X_ => Go.Rn.OpV.load1 Tryz.tOk rfl rfl rfl (Go.Sg.ldB (by assumption) (by exact rfl) Go.Sg.xt)) ?_ | refine Go.Sg.pfA rfl rfl rfl ?_ | refine Go.Sg.pfX rfl rfl rfl ?_ | refine Go.Sg.pvA rfl rfl rfl rfl rfl (by infer_instance) ?_ | refine Go.Rn.Asy.evV rfl rfl rfl rfl (fun _ X_ => Go.Sg.eqf rfl rfl (by infer_instance)) ?_ | refine Go.Rn.Asy.evV rfl rfl rfl rfl (fun _ X_ => Go.Rn.OpV.loadQ Tryz.tOk rfl rfl rfl (Go.Sg.ldN (by assumption) Go.Sg.xt) (by exact rfl)) ?_ | refine Go.Rn.Asy.evV rfl rfl rfl rfl (fun _ X_ => Go.Rn.OpV.load1 Tryz.tOk rfl rfl rfl (Go.Sg.ldR0 (by assumption) Go.Sg.xt)) ?_ | refine Go.Rn.Asy.evV rfl rfl rfl rfl (fun _ X_ => Go.Rn.OpV.load1 Tryz.tOk rfl rfl rfl (Go.Sg.ldR (by assumption) (by exact rfl) Go.Sg.xt)) ?_ | refine Go.Rn.Asy.evV rfl rfl rfl rfl (fun _ X_ => Go.Rn.OpV.loadQ Tryz.tOk rfl rfl rfl (Go.Sg.ldRN (by assumption) Go.Sg.xt) (by exact rfl)) ?_ | refine Go.Rn.Asy.evV rfl rfl rfl rfl (fun _ X_ => Go.Rn.OpV.lenSl Tryz.tOk rfl rfl (by assumption)) ?_ | refine Go.Rn.Asy.evV rfl rfl rfl rfl (fun _ X_ => Go.Rn.OpV.indexS Tryz.tOk _ rfl rfl rfl rfl (by omega)) ?_ | refine Go.Rn.Asy.evV rfl rfl rfl rfl (fun _ X_ => Go.Sg.lk2s rfl rfl (by assumption) Go.Sg.xt (by infer_instance) (by infer_instance) (by assumption)) ?_ | refine Go.Rn.Asy.evV rfl rfl rfl rfl (fun _ X_ => Go.Sg.lk2n rfl rfl (by assumption) Go.Sg.xt (by infer_instance) (by infer_instance) (by assumption)) ?_ | refine Go.Rn.Asy.evV rfl rfl rfl rfl (fun _ X_ => Go.Sg.lk2 rfl rfl (by assumption) Go.Sg.xt (by infer_instance) (by infer_instance)) ?_ | refine Go.Rn.Asy.evV rfl rfl rfl rfl (fun _ X_ => Go.Sg.lk1s rfl rfl (by assumption) Go.Sg.xt (by infer_instance) (by infer_instance) (by assumption)) ?_ | refine Go.Rn.Asy.evV rfl rfl rfl rfl (fun _ X_ => Go.Sg.lk1n rfl rfl (by assumption) Go.Sg.xt (by infer_instance) (by infer_instance) (by assumption)) ?_ | refine Go.Rn.Asy.evV rfl rfl rfl rfl (fun _ X_ => Go.Sg.lk1 rfl rfl (by assumption) Go.Sg.xt (by infer_instance) (by infer_instance)) ?_ | refine Go.Rn.Asy.evV rfl rfl rfl rfl (fun _ X_ => Go.Rn.OpV.quo Tryz.tOk rfl rfl (by omega) (by omega) (by omega)) ?_))); refine Go.Rn.Asy.end_ (by decide +kernel) ?_; intro ω_ e_)))
            exact h_ β_ ω_ Go.Sg.xt (Go.Rn.Added.ge a_ Go.Sg.xt) (Go.Rn.Blk.up z_ Go.Sg.xt))
         | (have e_ := a_.ext; have z_ := Go.Sg.zOf h_ (show Go.Rn.Blk _ β_ _ _ from a_.at_) rfl
            exact h_ β_ ω_ Go.Sg.xt (Go.Rn.Added.ge a_ Go.Sg.xt) (Go.Rn.Blk.up z_ Go.Sg.xt)))) : G := k h
theorem rt (h : H) (k : Kp H → G := by intro h_; (repeat (first | ((with_reducible refine Go.Rn.RunLN.id ?_); first | with_reducible refine Go.Rn.RunLN.boolT rfl ?_ | with_reducible refine Go.Rn.RunLN.boolF rfl ?_ | (with_reducible refine Go.Rn.RunLN.chk ?_; refine Go.Rn.RunLN.int (by (first | (refine Go.Rn.wr_i64 ?_ ?_; omega; omega) | (refine Go.Rn.wm_i64 ?_; omega) | (refine Go.Rn.wq_i64 ?_ ?_ ?_; omega; omega; omega) | rfl)) ?_) | with_reducible refine Go.Rn.RunLN.anyX rfl ?_ | refine Go.Rn.RunLN.boolT (by assumption) ?_ | refine Go.Rn.RunLN.boolF (by assumption) ?_ | with_reducible refine Go.Rn.RunLN.eqT rfl ?_ | with_reducible refine Go.Rn.RunLN.neF rfl ?_ | (with_reducible refine Go.Rn.RunLN.decT ?_ ?_; focus omega) | (with_reducible refine Go.Rn.RunLN.decF ?_ ?_; focus omega) | (with_reducible refine Go.Rn.RunLN.eqT ?_ ?_; focus omega) | (with_reducible refine Go.Rn.RunLN.eqF ?_ ?_; focus omega) | (with_reducible refine Go.Rn.RunLN.neT ?_ ?_; focus omega) | (with_reducible refine Go.Rn.RunLN.neF ?_ ?_; focus omega) | refine Go.Rn.RunLN.boolT (by exact rfl) ?_ | refine Go.Rn.RunLN.boolF (by exact rfl) ?_ | refine Go.Rn.RunLN.any ?_) | ((with_reducible refine Go.Rn.RunL.id ?_); first | refine Go.Rn.RunL.many Tryz.tOk rfl ?_ | refine Go.Rn.RunL.ev Tryz.tOk rfl rfl rfl ?_ | refine Go.Rn.RunL.unwantedD rfl rfl ?_ | refine Go.Rn.RunL.evV rfl rfl rfl (Go.Rn.OpV.load1 Tryz.tOk rfl rfl rfl (Go.Sg.ldB (by assumption) (by exact rfl) Go.Sg.xt)) ?_ | refine Go.Sg.pfN rfl rfl rfl ?_ | refine Go.Sg.pvN rfl rfl rfl rfl rfl (by infer_instance) ?_ | refine Go.Rn.RunL.evV rfl rfl rfl (Go.Sg.eqf rfl rfl (by infer_instance)) ?_ | refine Go.Rn.RunL.evV rfl rfl rfl (Go.Rn.OpV.loadQ Tryz.tOk rfl rfl rfl (Go.Sg.ldN (by assumption) Go.Sg.xt) (by exact rfl)) ?_ | refine Go.Rn.RunL.evV rfl rfl rfl (Go.Rn.OpV.load1 Tryz.tOk rfl rfl rfl (Go.Sg.ldR0 (by assumption) Go.Sg.xt)) ?_ | refine Go.Rn.RunL.evV rfl rfl rfl (Go.Rn.OpV.load1 Tryz.tOk rfl rfl rfl (Go.Sg.ldR (by assumption) (by exact rfl) Go.Sg.xt)) ?_ | refine Go.Rn.RunL.evV rfl rfl rfl (Go.Rn.OpV.loadQ Tryz.tOk rfl rfl rfl (Go.Sg.ldRN (by assumption) Go.Sg.xt) (by exact rfl)) ?_ | refine Go.Rn.RunL.evV rfl rfl rfl (Go.Rn.OpV.lenSl Tryz.tOk rfl rfl (by assumption)) ?_ | refine Go.Rn.RunL.evV rfl rfl rfl (Go.Rn.OpV.indexS Tryz.tOk _ rfl rfl rfl rfl (by omega)) ?_ | refine Go.Rn.RunL.evV rfl rfl rfl (Go.Sg.lk2s rfl rfl (by assumption) Go.Sg.xt (by infer_instance) (by infer_instance) (by assumption)) ?_ | refine Go.Rn.RunL.evV rfl rfl rfl (Go.Sg.lk2n rfl rfl (by assumption) Go.Sg.xt (by infer_instance) (by infer_instance) (by assumption)) ?_ | refine Go.Rn.RunL.evV rfl rfl rfl (Go.Sg.lk2 rfl rfl (by assumption) Go.Sg.xt (by infer_instance) (by infer_instance)) ?_ | refine Go.Rn.RunL.evV rfl rfl rfl (Go.Sg.lk1s rfl rfl (by assumption) Go.Sg.xt (by infer_instance) (by infer_instance) (by assumption)) ?_ | refine Go.Rn.RunL.evV rfl rfl rfl (Go.Sg.lk1n rfl rfl (by assumption) Go.Sg.xt (by infer_instance) (by infer_instance) (by assumption)) ?_ | refine Go.Rn.RunL.evV rfl rfl rfl (Go.Sg.lk1 rfl rfl (by assumption) Go.Sg.xt (by infer_instance) (by infer_instance)) ?_ | refine Go.Rn.RunL.evV rfl rfl rfl (Go.Rn.OpV.quo Tryz.tOk rfl rfl (by omega) (by omega) (by omega)) ?_ | refine Go.Rn.RunL.unwantedN rfl ?_ | refine Go.Rn.RunL.nil ?_) | refine Go.Rn.RunE.condT rfl rfl ?_ | refine Go.Rn.RunE.condF rfl rfl ?_ | refine Go.Rn.RunE.seq ?_ | refine Go.Rn.RunE.region ?_ | refine Go.Rn.RunE.block ?_ | refine Go.Rn.RunE.inBlock ?_ | refine Go.Rn.RunE.skip ?_ | refine Go.Rn.RunE.exit rfl ?_ | refine Go.Rn.RunE.scope ?_ | refine Go.Rn.RunE.inScope ?_ | refine Go.Rn.RunE.label ?_)); first | exact Go.Rn.retT (by assumption) (by exact rfl) h_.h | exact Go.Rn.falT (by assumption) (by exact rfl) h_.h) : G := k ⟨h⟩
end
theorem clB {a b : Bool} (h : a = b := by (try simp only [Bool.and_eq_true, Bool.or_eq_true, Bool.and_eq_false_iff, Bool.or_eq_false_iff, decide_eq_true_eq, decide_eq_false_iff_not, beq_iff_eq, bne_iff_ne, ne_eq, Bool.not_eq_true, Bool.not_eq_false, beq_eq_false_iff_ne, bne_eq_false_iff_eq, Bool.not_eq_eq_eq_not, Bool.not_true, Bool.not_false, Bool.not_not, gt_iff_lt, ge_iff_le, Decidable.not_not, Bool.false_eq_true, Bool.true_eq_false, reduceCtorEq, eq_self, true_implies, false_implies, and_true, true_and] at *) <;> first | exact rfl | exact (decide_eq_true (by omega)).symm | exact (decide_eq_false (by omega)).symm | (rw [Bool.eq_iff_iff]; (try simp only [Bool.and_eq_true, Bool.or_eq_true, decide_eq_true_eq, beq_iff_eq, Bool.not_eq_true', bne_iff_ne, ne_eq, decide_eq_false_iff_not, Bool.false_eq_true, reduceCtorEq, eq_self, true_iff, iff_true, false_iff, iff_false]); omega)) : a = b := h
end Go.Sg
end
section
set_option maxRecDepth 4000
namespace Go.Rn
section
variable {α κ : Type} [DecidableEq κ] (key : α → κ) (at_ : α → Int) (cnt : α → Bool)
def newer (m : List (κ × α)) (x : α) : Bool := match getM (key x) m with
 | none => true
 | some y => decide (at_ y ≤ at_ x)
def lastStep (m : List (κ × α)) (x : α) : List (κ × α) := if cnt x && newer key at_ m x then setM (key x) x m else m
def lastM (l : List α) : List (κ × α) := l.foldl (lastStep key at_ cnt) []
theorem lastM_snoc {l : List α} {i : Nat} {x : α} (h : l[i]? = some x) : lastM key at_ cnt (l.take (i + 1)) = lastStep key at_ cnt (lastM key at_ cnt (l.take i)) x := by
 unfold lastM; rw [List.take_add_one, h, List.foldl_append]; rfl
end
end Go.Rn
end
section
set_option maxRecDepth 4000
namespace Go.Rec
open Go.Rn
end Go.Rec
namespace Go.Rn
def idxFrom {α : Type} (p : α → Bool) : Int → List α → Int
 | _, [] => -1
 | i, x :: r => if p x then i else idxFrom p (i + 1) r
def idxF {α : Type} (p : α → Bool) (l : List α) : Int := idxFrom p 0 l
theorem idxFrom_any {α : Type} (p : α → Bool) : ∀ (l : List α) (i : Int), 0 ≤ i → decide (idxFrom p i l ≥ 0) = l.any p
 | [], i, _ => by simp [idxFrom]
 | x :: r, i, h => by
  have ih := idxFrom_any p r (i + 1) (by omega)
  by_cases hp : p x = true
  ·simp [idxFrom, hp, h]
  ·simp only [Bool.not_eq_true] at hp
   simp only [idxFrom, List.any_cons, hp, Bool.false_eq_true, if_false, Bool.false_or]; exact ih
theorem idxF_any {α : Type} (p : α → Bool) (l : List α) : decide (idxF p l ≥ 0) = l.any p := idxFrom_any p l 0 (Int.le_refl _)
end Go.Rn
namespace Go.Sg
open Go.Rn Go.Proofs Go.Rec Go.Best
attribute [local irreducible] Go.Rn.RetsX Go.Rn.RunLN Go.Rn.AsyN Go.Rn.RunL Go.Rn.RunE Go.Rn.Asy Go.Rn.OpV Go.Rn.OpE Go.Rn.ExecE
instance iLibI_1 (n : Int) : Pf 152 [.int .i64 n] (.bool false) := ⟨fun w => by
 refine en Tryz.func152 6 fun hf_ => ?_
 refine rt ?_
 exact ⟨congrArg Value.bool (by simp), rfl⟩⟩
instance iLibI_2 (n : Int) : Pf 207 [.int .i64 n] (.bool false) := ⟨fun w => by
 refine en Tryz.func207 6 fun hf_ => ?_
 refine rt ?_
 exact ⟨congrArg Value.bool (by simp), rfl⟩⟩
instance iLibI_3 (a b : Int) : Pf 101 [.int .i64 a, .int .i64 b] (.bool (decide (a < b))) := ⟨fun w => by
 refine en Tryz.func101 17 fun hf_ => ?_
 refine rt ?_
 exact ⟨rfl, rfl⟩⟩
theorem half_eq (k : Nat) (h : k ≤ 1000000) : IntKind.i64.wrap ((IntKind.u64.wrap (k : Int)).fdiv (2 ^ (min 1 IntKind.u64.bits))) = ((k / 2 : Nat) : Int) := by
 have h1 : IntKind.u64.wrap (k : Int) = (k : Int) := wr_u64 (by omega) (by omega)
 rw [h1]
 have h2 : (k : Int).fdiv (2 ^ (min 1 IntKind.u64.bits)) = ((k / 2 : Nat) : Int) := by
  rw [show (2 : Int) ^ (min 1 IntKind.u64.bits) = 2 from rfl, Int.fdiv_eq_ediv_of_nonneg _ (by decide)]; omega
 rw [h2]
 exact wr_i64 (by omega) (by omega)
theorem bsearchI_ok (l : List Int) (v : Value) (m : Int) (w : World) (hv : IsL w intC 1 v l) (hs : l.Pairwise (· < ·)) (hl : l.length ≤ 100000) :
  Rets Tryz.prog 196 [v, .int .i64 m] w fun r w' => (∃ i, r = .tuple #[i, .bool (decide (m ∈ l))]) ∧ w = w' := by
 have hlt : ∀ (i j : Nat) (a b : Int), l[i]? = some a → l[j]? = some b → i < j → a < b := fun i j a b ha hb hij => by
  obtain ⟨h1, rfl⟩ := List.getElem?_eq_some_iff.1 ha
  obtain ⟨h2, rfl⟩ := List.getElem?_eq_some_iff.1 hb
  exact List.pairwise_iff_getElem.1 hs i j h1 h2 hij
 refine en Tryz.func196 54 fun hf_ => ?_
 refine g ?_
 refine RunE.loop (ι := Nat × Nat) (fun x => [(0, v), (1, .int .i64 m), (6, .int .i64 (l.length : Int)), (7, .int .i64 (x.1 : Int)), (8, .int .i64 (x.2 : Int))])
  (fun x w' => x.1 ≤ x.2 ∧ x.2 ≤ l.length ∧ (∀ i a, l[i]? = some a → i < x.1 → a < m) ∧ (∀ i a, l[i]? = some a → x.2 ≤ i → m ≤ a) ∧ w = w') (fun x => x.2 - x.1) (0, l.length) sb_ ⟨Nat.zero_le _, Nat.le_refl _, fun i a _ h => absurd h (Nat.not_lt_zero _), fun i a h h' => by rw [List.getElem?_eq_none h'] at h; simp at h, rfl⟩ ?_
 rintro ⟨i, j⟩ _ ⟨h1, h2, h3, h4, rfl⟩ again
 simp only at h1 h2 h3 h4 again ⊢
 by_cases hij : i < j
 ·obtain ⟨b, o, cap, rfl, hr, hc⟩ := isL_held hv (i := (i + j) / 2) (by omega)
  obtain ⟨x, hx⟩ : ∃ x, l[(i + j) / 2]? = some x := ⟨_, List.getElem?_eq_getElem (by omega)⟩
  have hrx := flat_row encI hr hx
  have he : IntKind.i64.wrap ((IntKind.u64.wrap ((i : Int) + (j : Int))).fdiv (2 ^ (min 1 IntKind.u64.bits))) = (((i + j) / 2 : Nat) : Int) := by rw [← Int.natCast_add]; exact half_eq _ (by omega)
  refine g ?_
  rw [he]
  by_cases hlm : x < m
  ·refine g ?_
   refine RunE.weaken sb_ (again ((i + j) / 2 + 1, j) _ (by simp only; omega) ⟨by simp only; omega, h2, fun q a ha hq => ?_, h4, rfl⟩)
   simp only at hq
   rcases Nat.lt_or_ge q ((i + j) / 2) with h | h
   ·have := hlt q _ a x ha hx h; omega
   ·obtain rfl : q = (i + j) / 2 := by omega
    rw [hx] at ha; cases ha; exact hlm
  ·refine g ?_
   refine RunE.weaken sb_ (again (i, (i + j) / 2) _ (by simp only; omega) ⟨by simp only; omega, by simp only; omega, h3, fun q a ha hq => ?_, rfl⟩)
   simp only at hq
   rcases Nat.lt_or_ge ((i + j) / 2) q with h | h
   ·have := hlt _ q x a hx ha h; omega
   ·obtain rfl : q = (i + j) / 2 := by omega
    rw [hx] at ha; cases ha; omega
 ·obtain rfl : i = j := by omega
  by_cases hin : i < l.length
  ·obtain ⟨b, o, cap, rfl, hr, hc⟩ := isL_held hv hin
   obtain ⟨x, hx⟩ : ∃ x, l[i]? = some x := ⟨_, List.getElem?_eq_getElem hin⟩
   have hrx := flat_row encI hr hx
   have hmem : (x = m) = (m ∈ l) := propext ⟨fun h => h ▸ List.mem_of_getElem? hx, fun h => by
    obtain ⟨q, hq, e⟩ := List.mem_iff_getElem.1 h
    have hq' : l[q]? = some m := by rw [List.getElem?_eq_getElem hq, e]
    have a1 := h4 i x hx (Nat.le_refl _)
    rcases Nat.lt_trichotomy q i with c | rfl | c
    ·have := h3 q m hq' c; omega
    ·rw [hx] at hq'; cases hq'; rfl
    ·have := hlt i q x m hx hq' c; omega⟩
   by_cases hxm : x = m
   ·refine rt ?_
    exact ⟨⟨_, by rw [decide_eq_true (hmem ▸ hxm)]; rfl⟩, rfl⟩
   ·refine rt ?_
    exact ⟨⟨_, by rw [decide_eq_false (fun h => hxm (hmem.symm ▸ h))]; rfl⟩, rfl⟩
  ·have hno : ¬ m ∈ l := fun h => by
    obtain ⟨q, hq, e⟩ := List.mem_iff_getElem.1 h
    have := h3 q m (by rw [List.getElem?_eq_getElem hq, e]) (by omega); omega
   refine rt ?_
   exact ⟨⟨_, by rw [decide_eq_false hno]; rfl⟩, rfl⟩
theorem iidx_ok (l : List Int) (p : Int → Bool) (v f : Value) (w : World) (hl : l.length ≤ 100000) (hv : IsL w intC 1 v l) (hf : ∀ x ∈ l, ∀ w', Ext w w' → FnV Tryz.prog f [(Value.int .i64) x] w' (fun r w'' => r = .bool (p x) ∧ Ext w' w'') fun _ _ => False) :
  Rets Tryz.prog 83 [v, f] w fun r w' => r = .int .i64 (idxF p l) ∧ Ext w w' := by
 obtain ⟨d, cp, rfl⟩ := isSl_slice hv
 refine en Tryz.func83 19 fun hf_ => ?_
 refine g ?_
 refine rangeL hv encI 6 7 8 (fun _ : Unit => [(0, .slice d l.length cp), (1, f)]) (fun i _ w' => idxF p l = idxFrom p (i : Int) (l.drop i) ∧ Ext w w') () sb_ ⟨by simp [idxF], ExtB.refl _ _⟩ ?_ ?_
 ·rintro i ⟨⟩ x w1 hx ⟨h1, X⟩ b o cap hve hrx hlt again
  cases hve
  have hd : l.drop i = x :: l.drop (i + 1) := by
   obtain ⟨hi, e⟩ := List.getElem?_eq_some_iff.1 hx
   rw [List.drop_eq_getElem_cons hi, e]
  rw [hd] at h1
  simp only [idxFrom] at h1
  refine g ?_
  refine RunL.ex rfl rfl rfl (OpE.callV rfl rfl (hf x (List.mem_of_getElem? hx) w1 X)) ?_
  rintro _ w2 ⟨rfl, E2⟩
  cases hp : p x with
  | true =>
   rw [hp, if_pos rfl] at h1
   refine rt ?_
   exact ⟨by rw [h1]; rfl, xt⟩
  | false =>
   rw [hp, if_neg (by simp)] at h1
   refine g ?_
   exact RunE.weaken sb_ (again () w2 ⟨by rw [h1]; simp, xt⟩)
 ·rintro ⟨⟩ w1 ⟨h1, X⟩
  rw [List.drop_length] at h1
  refine rt ?_
  exact ⟨by rw [h1]; rfl, X⟩
theorem icon_ok (l : List Int) (p : Int → Bool) (v f : Value) (w : World) (hl : l.length ≤ 100000) (hv : IsL w intC 1 v l) (hf : ∀ x ∈ l, ∀ w', Ext w w' → FnV Tryz.prog f [(Value.int .i64) x] w' (fun r w'' => r = .bool (p x) ∧ Ext w' w'') fun _ _ => False) :
  Rets Tryz.prog 48 [v, f] w fun r w' => r = .bool (l.any p) ∧ Ext w w' := by
 refine en Tryz.func48 9 fun hf_ => ?_
 refine gc (iidx_ok l p v f w hl hv hf) ?_
 rintro _ w1 ⟨rfl, E1⟩
 have hr := idxF_any p l
 refine rt ?_
 exact ⟨by rw [← hr]; rfl, xt⟩
end Go.Sg
end
section
set_option maxRecDepth 4000
namespace Go.Rn
open Go.RowKit Go.Lib Go.Rec
section
variable {P : Program} {w : World} {env : Env} {dst : Option Tmp} {ty : TypeId} {pos : String} {after : Array Edge} {guard : Option (Nat × Bool)}
end
end Go.Rn
end
section
set_option maxRecDepth 4000
namespace Go.Rn
open Go.RowKit Go.Lib
theorem OpE.appendF {P : Program} {w : World} {env : Env} {dst : Option Tmp} {ty : TypeId} {pos : String} {after : Array Edge} {guard : Option (Nat × Bool)} {T : Tab} (hT : T.Ok P) {t e : TypeId} {sz : Nat} {ag : Bool} {s bb : Nat} {z : List Value} {a u : Bool} {ie : TI} {x y : Operand} {vx : Value} {g o n m : Nat} {xs news : List Value}
  (ht : T.get t = some ⟨.slc sz ag e, s, bb, z, a, u⟩) (he : T.get e = some ie) (hz : ie.zero.length = sz)
  (hx : evO env x = some (.slice (some ⟨g, o, none⟩) n n)) (hy : evO env y = some vx) (hr0 : Row w g o xs) (hx0 : xs.length = n * sz) (hn : IsSl w sz vx m news) (hm : 0 < m) (hbytes : (n + m) * ie.bytes ≤ 140737488355328) (h63 : n + m ≤ 9223372036854775807) :
  OpE P env w ⟨dst, .call ⟨.builtin .append, #[x, y], #[t, t]⟩, ty, pos, after, guard⟩
   (fun v' w' => w'.ownsRow w.heap.size e sz v' (n + m) (xs ++ news) ∧ Ext w w') fun _ _ => False := by
 obtain ⟨hu, hc⟩ := TD.of_slc (TI.tdof (hT.get _ _ ht)).symm
 obtain ⟨j, dd, zv, hj, hd, hzv, h1, h2, h3, h4, h5, _⟩ := TI.inv (hT.get _ _ he)
 obtain ⟨i, d', hi, hs', _, _⟩ := cellsAgg_inv hc
 rw [hi] at hj; cases hj
 have hzs : zv.cells.size = sz := by rw [← hz, h3]; simp
 obtain ⟨b, oo, c, rfl, hr, hl, hcap⟩ := hn.held hm
 have call : ∀ {v' : Value} {w' : World}, (Builtin.append_ #[t, t] ty #[.slice (some ⟨g, o, none⟩) n n, .slice (some ⟨b, oo, none⟩) m c]).run P w = .ok v' w' → ∀ ρ : Operand → Value, (∀ x v, evO env x = some v → ρ x = v) →
   ∃ s : Sem Value, execOp ρ ⟨dst, .call ⟨.builtin .append, #[x, y], #[t, t]⟩, ty, pos, after, guard⟩ = (do pure (.value (← s)) : Sem Next) ∧ s.run P w = .ok v' w' := fun hr ρ hρ =>
  ⟨_, by simp only [execOp, resolve, List.map_toArray, List.map_cons, List.map_nil, hρ _ _ hx, hρ _ _ hy]; rfl, hr⟩
 have hrun := run_append_grow (P := P) (w := w) t ty e j zv hu hi hzv ⟨g, o, none⟩ n n xs (by rw [hx0, hs']) (fun q v hv => by rw [add_none]; exact hr0 q v hv) ⟨b, oo, none⟩ m c news (by rw [hl, hs']) (fun q v hv => by rw [add_none]; exact hr q v hv) (by omega) (by omega)
  (growslice_fits (by omega) (by rw [← h2]; exact hbytes))
 have hcap2 := grownCap_ge w (n + m) n e
 have hcm : grownCap w (n + m) n e ≤ maxLen := grownCap_le_maxLen w (n + m) n e (by simp only [maxLen]; omega)
 have hxn : (xs ++ news).length = (n + m) * sz := by rw [List.length_append, hx0, hl, Nat.add_mul]
 refine .of_run ⟨⟨hxn, .inr ⟨w.heap.size, grownCap w (n + m) n e, _, rfl, Nat.le_refl _, heap_alloc_new w.drew _, hcap2, hcm, ?_, ?_⟩⟩, ⟨Nat.le_succ _, rfl, rfl, rfl, by simp, fun k hk _ => by first | exact (by apply heap_alloc_old; exact hk) | exact heap_alloc_old w.drew _ hk⟩⟩ (call hrun)
 ·simp only [Array.size_append, List.size_toArray, size_zeroCells, hzs]
  rw [← List.length_append, hxn, ← Nat.add_mul]
  congr 1; omega
 ·simp only [Array.toList_append]
  rw [List.take_append_of_le_length (by simp [hxn]), ← hxn]
  simp only [List.length_append, List.toList_toArray]
  rw [← List.length_append, List.take_length]
end Go.Rn
namespace Go.Sg
open Go.Rn Go.Proofs Go.Rec
attribute [local irreducible] Go.Rn.RetsX Go.Rn.RunLN Go.Rn.AsyN Go.Rn.RunL Go.Rn.RunE Go.Rn.Asy Go.Rn.OpV Go.Rn.OpE Go.Rn.ExecE
instance iAppF_1 (b o n c : Nat) : Pf 197 [.slice (some ⟨b, o, none⟩) n (n + c)] (.slice (some ⟨b, o, none⟩) n n) := ⟨fun w => by
 refine en Tryz.func197 9 fun hf_ => ?_
 refine g ?_
 refine RunL.val rfl rfl rfl (OpV.sliceS Tryz.tOk rfl rfl .none (.some rfl rfl) (.some rfl rfl) (.inr (by simp)) (by omega) (Nat.le_refl _) (by omega)) ?_
 rw [offOf_zero, Nat.sub_zero]
 refine rt ?_
 exact ⟨rfl, rfl⟩⟩
end Go.Sg
end
section
set_option maxRecDepth 4000
namespace Go.Rn
open Go.RowKit
def ChanAt (w : World) (C cap : Nat) (buf : List Value) : Prop := ∃ s r, w.heap[C]? = some (.chan cap buf.toArray false s r false)
theorem ChanAt.lt {w : World} {C cap : Nat} {buf : List Value} (h : ChanAt w C cap buf) : C < w.heap.size := by obtain ⟨s, r, h⟩ := h; exact lt_of_get h
theorem ChanAt.ext {S : Nat → Prop} {w w' : World} {C cap : Nat} {buf : List Value} (h : ChanAt w C cap buf) (e : ExtB S w w') (hn : ¬ S C) : ChanAt w' C cap buf := by
 obtain ⟨s, r, h⟩ := h
 exact ⟨s, r, by rw [e.block C (lt_of_get h) hn]; exact h⟩
theorem ChanAt.up {w w' : World} {C cap : Nat} {buf : List Value} (h : ChanAt w C cap buf) (e : Ext w w') : ChanAt w' C cap buf := h.ext e id
section
variable {P : Program} {w : World} {env : Env} {dst : Option Tmp} {ty : TypeId} {pos : String} {after : Array Edge} {guard : Option (Nat × Bool)}
theorem OpE.makeChan {t e : TypeId} {dir : ChanDir} {i : TypeInfo} {x : Operand} {n : Nat} (ht : P.underlying t = some (.chan dir e)) (hi : P.info? e = some i) (hx : evO env x = some (.int .i64 (n : Int))) (hn : n ≤ 100000) (hb : i.bytes ≤ 1000) :
  OpE P env w ⟨dst, .makeChan t x, ty, pos, after, guard⟩ (fun v w' => ∃ C, v = .chan (some C) ∧ w.heap.size ≤ C ∧ Ext w w' ∧ ChanAt w' C n []) fun _ _ => False := by
 refine .of_run (w' := { w with heap := w.heap.push (.chan n #[] false 0 0 false) }) (v := .chan (some w.heap.size)) ⟨_, rfl, Nat.le_refl _, (added_push w _).ext, ⟨0, 0, (added_push w _).at_⟩⟩ fun ρ hρ => ⟨_, by simp only [execOp, hρ _ _ hx]; rfl, ?_⟩
 have h1 : ¬ ((n : Int) < 0 ∨ (n : Int) > IntKind.i64.max ∨ (i.bytes : Int) * (n : Int) > 2 ^ 48 - 112) := by
  have e1 : IntKind.i64.max = 9223372036854775807 := by decide
  rw [e1]
  have : (i.bytes : Int) * (n : Int) ≤ 1000 * 100000 := by
   have : i.bytes * n ≤ 1000 * 100000 := Nat.mul_le_mul hb hn
   omega
  omega
 unfold Instr.makeChan
 rw [run_bind _ _ (show (asInt (.int .i64 (n : Int))).run P w = .ok (n : Int) w from rfl), run_bind _ _ (run_underlying ht)]
 simp only
 rw [run_bind _ _ (run_typeInfo hi), if_neg h1]
 rfl
theorem OpV.lenChan {t e : TypeId} {dir : ChanDir} {x : Operand} {C cap : Nat} {buf : List Value} {w' : World} (ht : P.underlying t = some (.chan dir e)) (hx : evO env x = some (.chan (some C))) (hc : ChanAt w' C cap buf) (ee : Ext w' w) :
  OpV P env w ⟨dst, .call ⟨.builtin .len, #[x], #[t]⟩, ty, pos, after, guard⟩ (.int .i64 (buf.length : Int)) := .of_run fun ρ hρ => by
 obtain ⟨s, r, h⟩ := hc.up ee
 refine ⟨_, by simp only [execOp, resolve, List.map_toArray, List.map_cons, List.map_nil, hρ _ _ hx]; rfl, ?_⟩
 show (Builtin.len_ #[t] ty #[.chan (some C)]).run P w = _
 unfold Builtin.len_
 simp only [List.getElem?_toArray, List.getElem?_cons_zero]
 rw [run_bind _ _ (run_underlying ht)]
 simp only
 rw [run_bind _ _ (run_getObj h (by simp))]
 rfl
end
section
variable {P : Program} {c : Ctx} {k : List Item} {Q : Out → Act → World → Prop} {w : World} {n : Nat} {ds : List Deferred} {env : Env}
variable {ops : Array Oper} {d : Tmp} {ty : TypeId} {pos : String} {after : Array Edge} {guard : Option (Nat × Bool)} {rest : List Oper}
theorem turned_setChan {C cap : Nat} {buf : List Value} (h : C < w.heap.size) (s r : Nat) : ChanAt (w.setChan C cap buf.toArray false s r false) C cap buf ∧ ExtB (· = C) w (w.setChan C cap buf.toArray false s r false) :=
 ⟨⟨s, r, Go.Conc.heap_setChan w C cap _ false s r false h⟩, ⟨Nat.le_refl _, rfl, rfl, rfl, by rw [Go.Conc.size_setChan]; exact Nat.le_refl _, fun i _ hi => by
  simp only [World.setChan]
  rw [Array.getElem?_setIfInBounds, if_neg (fun e => hi e.symm)]⟩⟩
theorem RunL.send {x y : Operand} {C cap : Nat} {buf : List Value} {v : Value} {w0 : World} (hw : wantE ops.toList env ⟨none, .send x y, ty, pos, after, guard⟩ = some true) (hx : evO env x = some (.chan (some C))) (hy : evO env y = some v)
  (hc : ChanAt w0 C cap buf) (ee : Ext w0 w) (hroom : buf.length < cap) (h : ∀ w', ChanAt w' C cap (buf ++ [v]) → ExtB (· = C) w w' → w'.heap.size = w.heap.size → RunL P c n ds ops rest k Q env w') :
  RunL P c n ds ops (⟨none, .send x y, ty, pos, after, guard⟩ :: rest) k Q env w := fun i hi a ha => by
 obtain ⟨h1, h2⟩ := drop_cons hi
 rw [List.length_cons, List.range'_succ]
 have ho : ops[i]? = some ⟨none, .send x y, ty, pos, after, guard⟩ := by simpa using h1
 obtain ⟨s, r, hC⟩ := hc.up ee
 intro cs
 have hg := stepG_oper (P := P) (c := c) (k := k) (w := w) (rest := List.range' (i + 1) rest.length) (cs := cs) ho (wantE_ok ha hw) rfl
 have hfin : (c.fr a (.inRegion ops (i :: List.range' (i + 1) rest.length) :: k)).finish undef = c.fr a (.inRegion ops (List.range' (i + 1) rest.length) :: k) := by
  rw [Ctx.fr_finish, ho]; rfl
 have he : (execOp a.eval ⟨none, .send x y, ty, pos, after, guard⟩).run P w = .ok (Next.comm #[{ chan := .chan (some C), send := some v, zero := .tuple #[] }] true .send) w := by
  rw [← ha.ev hx, ← ha.ev hy]; rfl
 obtain ⟨es, hs⟩ : ∃ es, stepG P true (Go.Conc.G (c.fr a (.inRegion ops (i :: List.range' (i + 1) rest.length) :: k)) cs) w = .comm (Go.Conc.G (c.fr a (.inRegion ops (i :: List.range' (i + 1) rest.length) :: k)) cs) #[Go.Conc.scase C v (.tuple #[])] true .send w es := by
  show ∃ es, stepG P true { frame := _, callers := cs, status := .running, dying := none } w = _
  rw [hg]; simp [stepG.apply, he, GStep.after, Go.Conc.G, Go.Conc.scase]
 obtain ⟨t1, t2⟩ := turned_setChan (w := w) (C := C) (cap := cap) (buf := buf ++ [v]) (lt_of_get hC) (s + 1) r
 have hst := Go.Conc.step_lone_send_room hs hC (by simpa using hroom)
 rw [show buf.toArray.push v = (buf ++ [v]).toArray by simp, hfin] at hst
 obtain ⟨o', a1, w1, q, f⟩ := h _ t1 t2 (Go.Conc.size_setChan ..) (i + 1) h2 a ha cs
 exact ⟨o', a1, w1, q, Fin.of_steps (.one hst) f⟩
theorem RunL.recv {t e : TypeId} {dir : ChanDir} {zv : Value} {x : Operand} {C cap : Nat} {v : Value} {buf : List Value} {w0 : World} (hw : wantE ops.toList env ⟨some d, .recv t x false, ty, pos, after, guard⟩ = some true) (hdst : Nat.blt d n = true) (ht : P.underlying t = some (.chan dir e)) (hz : (zeroValue e).run P w = .ok zv w) (hx : evO env x = some (.chan (some C)))
  (hc : ChanAt w0 C cap (v :: buf)) (ee : Ext w0 w) (h : ∀ w', ChanAt w' C cap buf → ExtB (· = C) w w' → w'.heap.size = w.heap.size → RunL P c n ds ops rest k Q ((d, v) :: env) w') :
  RunL P c n ds ops (⟨some d, .recv t x false, ty, pos, after, guard⟩ :: rest) k Q env w := fun i hi a ha => by
 obtain ⟨h1, h2⟩ := drop_cons hi
 rw [List.length_cons, List.range'_succ]
 have ho : ops[i]? = some ⟨some d, .recv t x false, ty, pos, after, guard⟩ := by simpa using h1
 obtain ⟨s, r, hC⟩ := hc.up ee
 intro cs
 have hg := stepG_oper (P := P) (c := c) (k := k) (w := w) (rest := List.range' (i + 1) rest.length) (cs := cs) ho (wantE_ok ha hw) rfl
 have hfin : (c.fr a (.inRegion ops (i :: List.range' (i + 1) rest.length) :: k)).finish v = c.fr (a.put (some d) v) (.inRegion ops (List.range' (i + 1) rest.length) :: k) := by
  rw [Ctx.fr_finish, ho]; rfl
 have he : (execOp a.eval ⟨some d, .recv t x false, ty, pos, after, guard⟩).run P w = .ok (Next.comm #[{ chan := .chan (some C), send := none, zero := zv }] true (.recv false)) w := by
  rw [← ha.ev hx]
  simp only [execOp]
  rw [run_bind _ _ (run_underlying ht)]
  simp only
  rw [run_bind _ _ hz]; rfl
 obtain ⟨es, hs⟩ : ∃ es, stepG P true (Go.Conc.G (c.fr a (.inRegion ops (i :: List.range' (i + 1) rest.length) :: k)) cs) w = .comm (Go.Conc.G (c.fr a (.inRegion ops (i :: List.range' (i + 1) rest.length) :: k)) cs) #[Go.Conc.rcase C zv] true (.recv false) w es := by
  show ∃ es, stepG P true { frame := _, callers := cs, status := .running, dying := none } w = _
  rw [hg]; simp [stepG.apply, he, GStep.after, Go.Conc.G, Go.Conc.rcase]
 obtain ⟨t1, t2⟩ := turned_setChan (w := w) (C := C) (cap := cap) (buf := buf) (lt_of_get hC) s (r + 1)
 have hst := Go.Conc.step_lone_recv_buf false hs hC (by simp)
 rw [show (v :: buf).toArray.extract 1 (v :: buf).toArray.size = buf.toArray by apply Array.ext'; simp, show Go.Conc.got false ((v :: buf).toArray.getD 0 undef) true = v from rfl, hfin] at hst
 obtain ⟨o', a1, w1, q, f⟩ := h _ t1 t2 (Go.Conc.size_setChan ..) (i + 1) h2 _ (ha.putO (dstOk_lt (d := some d) hdst) v) cs
 exact ⟨o', a1, w1, q, Fin.of_steps (.one hst) f⟩
end
end Go.Rn
end
section
set_option maxRecDepth 4000
namespace Go.Rn
open Go.RowKit Go.Rec
abbrev nilV : Value := .slice none 0 0
structure GrpOk {κ α : Type} [DecidableEq κ] (enc : α → List Value) (sz : Nat) (ty : TypeId) (w : World) (base : Nat) (m : List (κ × Value)) (g : κ → List α) : Prop where
 get : ∀ x, match getM x m with
  | none => g x = []
  | some v => w.ownsRow base ty sz v (g x).length (flat enc (g x))
 ap : ∀ (x y : κ) (v v' : Value) (k : Nat), x ≠ y → getM x m = some v → getM y m = some v' → v.ownBlock = some k → v'.ownBlock = some k → False
section
variable {κ α : Type} [DecidableEq κ] {enc : α → List Value} {sz : Nat} {ty : TypeId}
theorem GrpOk.nil (w : World) (base : Nat) {g : κ → List α} (hg : ∀ x, g x = []) : GrpOk enc sz ty w base [] g := ⟨fun x => hg x, fun x y v v' k _ h => by simp [getM] at h⟩
theorem GrpOk.ext {S : Nat → Prop} {w w' : World} {base : Nat} {m : List (κ × Value)} {g : κ → List α} (h : GrpOk enc sz ty w base m g) (e : ExtB S w w') (hS : ∀ k cs, base ≤ k → w.heap[k]? = some (.cells cs ty (0, 0)) → ¬ S k) : GrpOk enc sz ty w' base m g := by
 refine ⟨fun x => ?_, h.ap⟩
 have := h.get x
 cases hx : getM x m with
 | none => rw [hx] at this; exact this
 | some v =>
  rw [hx] at this
  refine ownsRow_ext this e fun k hk => ?_
  rcases this.2 with ⟨rfl, -⟩ | ⟨g, c, cur, rfl, hb, hg, -⟩
  ·simp [Value.ownBlock] at hk
  ·have : k = g := by simpa [Value.ownBlock] using hk.symm
   subst this
   exact hS k cur hb hg
theorem GrpOk.up {w w' : World} {base : Nat} {m : List (κ × Value)} {g : κ → List α} (h : GrpOk enc sz ty w base m g) (e : Ext w w') : GrpOk enc sz ty w' base m g := h.ext e fun _ _ _ _ h => h
theorem GrpOk.own {w : World} {base : Nat} {m : List (κ × Value)} {g : κ → List α} (h : GrpOk enc sz ty w base m g) (x : κ) : w.ownsRow base ty sz ((getM x m).getD nilV) (g x).length (flat enc (g x)) := by
 have := h.get x
 cases hx : getM x m with
 | none =>
  rw [hx] at this
  rw [this]; exact World.ownsRow_nil _ _ _ _
 | some v => rw [hx] at this; exact this
theorem GrpOk.blk {w : World} {base : Nat} {m : List (κ × Value)} {g : κ → List α} (h : GrpOk enc sz ty w base m g) (x : κ) {k : Nat} (hk : ((getM x m).getD nilV).ownBlock = some k) : base ≤ k ∧ k < w.heap.size ∧ ∃ cs, w.heap[k]? = some (.cells cs ty (0, 0)) := by
 have hO := h.own x
 refine ⟨ownsRow_ge hO hk, ?_⟩
 rcases hO.2 with ⟨h0, -⟩ | ⟨g, c, cur, h0, hb, hg, -⟩
 ·rw [h0] at hk; simp [Value.ownBlock] at hk
 ·rw [h0] at hk
  have : k = g := by simpa [Value.ownBlock] using hk.symm
  subst this
  exact ⟨lt_of_get hg, cur, hg⟩
theorem GrpOk.snoc {w w' : World} {base : Nat} {m : List (κ × Value)} {g g' : κ → List α} {x0 : κ} {a : α} {u : Value} (h : GrpOk enc sz ty w base m g) (e : ExtB (fun k => ((getM x0 m).getD nilV).ownBlock = some k) w w')
  (hu : w'.ownsRow base ty sz u ((g x0).length + 1) (flat enc (g x0) ++ enc a)) (ho : ∀ k, u.ownBlock = some k → k < w.heap.size → ((getM x0 m).getD nilV).ownBlock = some k)
  (h0 : g' x0 = g x0 ++ [a]) (h1 : ∀ x, x ≠ x0 → g' x = g x) : GrpOk enc sz ty w' base (setM x0 u m) g' := by
 have hlt : ∀ (x : κ) (v : Value) (k : Nat), getM x m = some v → v.ownBlock = some k → k < w.heap.size := fun x v k hx hk => (h.blk x (by rw [hx]; exact hk)).2.1
 have hno : ∀ (x : κ) (v : Value) (k : Nat), x ≠ x0 → getM x m = some v → v.ownBlock = some k → ¬ ((getM x0 m).getD nilV).ownBlock = some k := fun x v k hx hv hk hk' => by
  cases hd : getM x0 m with
  | none => rw [hd] at hk'; simp [Value.ownBlock] at hk'
  | some v' =>
   rw [hd] at hk'
   exact h.ap x0 x v' v k (Ne.symm hx) hd hv hk' hk
 refine ⟨fun x => ?_, fun x y v v' k hxy hx hy hk hk' => ?_⟩
 ·rw [getM_set]
  by_cases hx : x = x0
  ·subst hx
   rw [if_pos rfl]
   simp only
   rw [h0, List.length_append, flat_append, flat_one]
   exact hu
  ·rw [if_neg hx, h1 x hx]
   have := h.get x
   cases hxm : getM x m with
   | none => rw [hxm] at this; exact this
   | some v =>
    rw [hxm] at this
    exact ownsRow_ext this e fun k hk => hno x v k hx hxm hk
 ·rw [getM_set] at hx hy
  by_cases h2 : x = x0
  ·have h3 : ¬ y = x0 := fun e => hxy (h2.trans e.symm)
   rw [if_pos h2] at hx
   rw [if_neg h3] at hy
   cases hx
   exact hno y v' k h3 hy hk' (ho k hk (hlt y v' k hy hk'))
  ·rw [if_neg h2] at hx
   by_cases h3 : y = x0
   ·rw [if_pos h3] at hy
    cases hy
    exact hno x v k h2 hx hk (ho k hk' (hlt x v k hx hk))
   ·rw [if_neg h3] at hy
    exact h.ap x y v v' k hxy hx hy hk hk'
end
end Go.Rn
end
section
set_option maxRecDepth 4000
namespace Go.Rn
open Go.RowKit
def GivesS (P : Program) (f : Value) (xs : List (List Value)) (w0 : World) (F : Nat → Prop) : Prop :=
 ∀ (S : Nat → Prop) (J : Nat → World → Prop) (Z : World → Prop) (y : Value) (w : World), (∀ k, F k → ¬ S k) → J 0 w → (∀ i w1, J i w1 → ExtB S w0 w1) → (∀ i w1 w2, J i w1 → Ext w1 w2 → J i w2) → (∀ w1 w2, Z w1 → Ext w1 w2 → Z w2) →
  (∀ i x w1, xs[i]? = some x → J i w1 → FnV P y x w1 (fun r w2 => (r = .bool true ∧ J (i + 1) w2) ∨ (r = .bool false ∧ Z w2)) fun _ _ => False) → FnV P f [y] w (fun _ w' => J xs.length w' ∨ Z w') fun _ _ => False
def RoundS (L D : Nat) (lp : Loop) (K Z : World → Prop) : Out → Act → World → Prop
 | .fall, _, w => K w ∧ LoopAt w L D { lp with state := .busy }
 | .ret, _, w => Z w ∧ LoopAt w L D { lp with state := .busy }
 | _, _, _ => False
section
variable {P : Program} {c : Ctx} {k : List Item} {Q : Out → Act → World → Prop} {w : World} {n : Nat} {ds : List Deferred} {env : Env}
theorem RunE.endS {L D : Nat} {lp : Loop} {K Z : World → Prop} (hK : K w) (hl : LoopAt w L D { lp with state := .busy }) : RunE P c n ds [] (RoundS L D lp K Z) env w := .nil fun _ _ => ⟨hK, hl⟩
theorem RunE.stopS {L D : Nat} {lp : Loop} {K Z : World → Prop} (hZ : Z w) (hl : LoopAt w L D { lp with state := .busy }) : RunE P c n ds (.code .ret :: k) (RoundS L D lp K Z) env w := .ret fun _ _ => ⟨hZ, hl⟩
theorem RunE.rangeGivesS {f : Operand} {params : Array Tmp} {assign body : Code} {fv : Value} {xs : List (List Value)} {w0 : World} {F : Nat → Prop} (hc : c.round = none) (hfn : ∃ g, P.funcs[c.fn]? = some g)
  (hf : evO env f = some fv) (hG : GivesS P fv xs w0 F) (S0 : Nat → Prop) (hF : ∀ k, F k → ¬ S0 k ∧ k < w.heap.size) (hX : ExtB S0 w0 w)
  (hlen : ∀ x ∈ xs, x.length = params.toList.length) (hp : params.toList.all (Nat.blt · n) = true) (J : Nat → World → Prop) (Z : World → Prop)
  (h0 : ∀ w2, Ext w w2 → w2.heap.size = w.heap.size + 2 → J 0 w2) (hJS : ∀ i w1, J i w1 → ExtB S0 w w1)
  (hJup : ∀ i w1 w2, J i w1 → ExtB (fun k => k = w.heap.size ∨ k = w.heap.size + 1) w1 w2 → J i w2)
  (hZup : ∀ w1 w2, Z w1 → ExtB (fun k => k = w.heap.size ∨ k = w.heap.size + 1) w1 w2 → Z w2)
  (hb : ∀ i x w1 lp, xs[i]? = some x → J i w1 → LoopAt w1 (w.heap.size + 1) w.heap.size lp → lp.state = .ready →
   RunE P ⟨c.fn, .normal, some (w.heap.size + 1)⟩ n [] [.code assign, .beginRound, .code body] (RoundS (w.heap.size + 1) w.heap.size lp (J (i + 1)) Z) (parEnv params.toList x env) w1)
  (h : ∀ w', J xs.length w' → w'.heap[w.heap.size]? = some (.deferred (some [])) → RunE P c n (markOf w.heap.size :: ds) k Q env w')
  (h' : ∀ w', Z w' → w'.heap[w.heap.size]? = some (.deferred (some [])) → RunE P c n (markOf w.heap.size :: ds) (.code .ret :: k) Q env w') :
  RunE P c n ds (.code (.rangeFunc f params assign body) :: k) Q env w := by
 refine RunE.rangeFunc hc hf fun a D L w1 w2 lp hst h1 h2 hlp => ?_
 obtain rfl : D = w.heap.size := h1.eq
 have e2 := h2.eq
 rw [h1.size] at e2
 subst e2
 have hX2 : Ext w w2 := h1.ext.trans h2.ext
 have hL2 : LoopAt w2 (w.heap.size + 1) w.heap.size lp := ⟨h2.at_, obj_ext h1.at_ h2.ext id⟩
 have hsz : w2.heap.size = w.heap.size + 2 := h2.size
 refine FnV.mono (hG (fun k => S0 k ∨ w.heap.size ≤ k) (fun i w' => J i w' ∧ LoopAt w' (w.heap.size + 1) w.heap.size lp) (fun w' => Z w' ∧ LoopAt w' (w.heap.size + 1) w.heap.size { lp with state := .done, pending := some .ret }) (yieldV (w.heap.size + 1)) w2 ?_ ⟨h0 w2 hX2 hsz, hL2⟩ ?_ ?_ ?_ ?_) ?_ (fun _ _ h => h)
 ·intro k hk hs
  have := hF k hk
  rcases hs with hs | hs
  ·exact this.1 hs
  ·omega
 ·rintro i w' ⟨hj, -⟩
  exact (hX.trans (hJS i w' hj)).mono fun k _ h => .inl h
 ·rintro i u u' ⟨hj, hl⟩ e
  exact ⟨hJup i u u' hj (ExtB.of_ext e), hl.up e⟩
 ·rintro u u' ⟨hj, hl⟩ e
  exact ⟨hZup u u' hj (ExtB.of_ext e), hl.up e⟩
 ·rintro i x u hx ⟨hj, hl⟩
  refine Yield.run (env := env) hl.l hfn hst (params := params.toList) (assign := assign) (body := body) (by simpa using hlp) (hlen x (List.mem_of_getElem? hx)) hp rfl ?_
  intro a' ha' cs
  obtain ⟨o, a1, u1, hq, hfin⟩ := hb i x u lp hx hj hl hlp.state a' ha' cs
  refine ⟨o, a1, u1, ?_, hfin⟩
  cases o with
  | fall =>
   obtain ⟨hK, hl1⟩ := hq
   refine ⟨_, hl1.l, fun u2 t2 => .inl ⟨rfl, hJup _ _ _ hK (t2.ext.mono fun k _ h => .inr h), ?_, obj_ext hl1.d t2.ext (by omega)⟩⟩
   have := t2.at_
   rwa [show ({ ({ lp with state := .busy } : Loop) with state := .ready, pending := none } : Loop) = lp from hlp.back] at this
  | ret =>
   obtain ⟨hK, hl1⟩ := hq
   exact ⟨_, hl1.l, fun u2 t2 => .inr ⟨rfl, hZup _ _ hK (t2.ext.mono fun k _ h => .inr h), t2.at_, obj_ext hl1.d t2.ext (by omega)⟩⟩
  | exit id => exact hq.elim
  | panic ch => exact hq.elim
 ·rintro _ w3 (⟨hj, hl⟩ | ⟨hj, hl⟩)
  ·refine ⟨lp, hl.l, by rw [hlp.state]; rfl, fun w4 t4 => ?_⟩
   rw [hlp.pending]
   refine RunE.at_ hst (h w4 (hJup _ _ _ hj (t4.ext.mono fun k _ h => .inr h)) (obj_ext hl.d t4.ext (by omega)))
  ·refine ⟨_, hl.l, rfl, fun w4 t4 => ?_⟩
   exact RunE.at_ hst (h' w4 (hZup _ _ hj (t4.ext.mono fun k _ h => .inr h)) (obj_ext hl.d t4.ext (by omega)))
end
end Go.Rn
end
section
set_option maxRecDepth 4000
namespace Go.Rn
open Go.RowKit
section
variable {P : Program} {c : Ctx} {k : List Item} {Q : Out → Act → World → Prop} {w : World} {n : Nat} {ds : List Deferred} {env : Env}
theorem RunE.loopD {ι : Type} {body : Code} (E : ι → Env) (D : ι → List Deferred) (I : ι → World → Prop) (μ : ι → Nat) (x0 : ι) (hs : Sub (E x0) env) (hd : D x0 = ds) (h0 : I x0 w)
  (h : ∀ x w, I x w → (∀ y w', μ y < μ x → I y w' → RunE P c n (D y) (.inLoop body :: k) Q (E y) w') → RunE P c n (D x) (.code body :: .inLoop body :: k) Q (E x) w) :
  RunE P c n ds (.code (.loop body) :: k) Q env w := by
 have key : ∀ m x w, μ x ≤ m → I x w → RunE P c n (D x) (.code body :: .inLoop body :: k) Q (E x) w := by
  intro m
  induction m with
  | zero => intro x w hx hI; exact h x w hI (fun y w' hy _ => by omega)
  | succ m ih => intro x w hx hI; exact h x w hI (fun y w' hy hI' a ha => .inLoop (ih y w' (by omega) hI' a ha))
 subst hd
 exact .weaken hs (fun a ha => .loop (key (μ x0) x0 w (Nat.le_refl _) h0 a ha))
theorem Leaves.marks {g : FuncId} {tmps : Array Value} {todo : List Item} {kind : CallKind} {R : Value → World → Prop} {X : List PanicEntry → World → Prop} : ∀ (Ds : List Nat) {w : World}, (∀ D ∈ Ds, w.heap[D]? = some (.deferred (some []))) → Ds.Nodup →
  (∀ w', ExtB (· ∈ Ds) w w' → Leaves P { fn := g, tmps, todo, defers := [], mode := .returning, kind } R X w') → Leaves P { fn := g, tmps, todo, defers := Ds.map markOf, mode := .returning, kind } R X w
 | [], w, _, _, h => h w (ExtB.refl _ _)
 | D :: Ds, w, hD, hn, h => by
  have hn' := List.nodup_cons.1 hn
  refine Leaves.mark (hD D List.mem_cons_self) fun w' t => Leaves.marks Ds (fun D' hD' => ?_) hn'.2 fun w'' e => h w'' ?_
  ·exact obj_ext (hD D' (List.mem_cons_of_mem _ hD')) t.ext (fun e => hn'.1 (e ▸ hD'))
  ·exact (t.ext.mono fun k _ h => by subst h; exact List.mem_cons_self).trans (e.mono fun k _ h => List.mem_cons_of_mem _ h)
theorem RunE.retFnM {g : FuncId} {fn : Func} (Ds : List Nat) {R : Value → World → Prop} {X : List PanicEntry → World → Prop} (hf : P.funcs[g]? = some fn) (hD : ∀ D ∈ Ds, w.heap[D]? = some (.deferred (some []))) (hn : Ds.Nodup)
  (h : ∀ w', ExtB (· ∈ Ds) w w' → ∃ vs, ResOk P w' env fn.results.toList vs ∧ R (oneOr vs) w') : RunE P c n (Ds.map markOf) (.code .ret :: k) (FnQ P g R X) env w :=
 .ret fun a ha todo => by
  rw [ha.defers]
  refine Leaves.marks Ds hD hn fun w' ht => ?_
  obtain ⟨vs, h1, h2⟩ := h w' ht
  exact Leaves.ret hf (h1.resultsRun ha) h2
end
end Go.Rn
end
section
set_option maxRecDepth 4000
namespace Go.Sg
open Go.Rn Go.Proofs Go.RowKit Go.Rec
theorem ap1 {α : Type} {enc : α → List Value} {sz : Nat} (he : EncOk enc sz) (a : α) {c : Ctx} {k : List Item} {Q : Out → Act → World → Prop} {w w0 : World} {n : Nat} {ds : List Deferred} {env : Env} {ops : Array Oper} {rest : List Oper}
  {d1 d2 : Tmp} {t ty1 ty2 : TypeId} {pos1 pos2 : String} {after1 after2 : Array Edge} {guard1 guard2 : Option (Nat × Bool)} {x x2 : Operand} {v v1 : Value} {e : TypeId} {ag : Bool} {s b : Nat} {z : List Value} {ua u : Bool} {ie : TI} {base m : Nat} {xs : List Value}
  (hO : w0.ownsRow base e sz v m xs) (E : Ext w0 w) (hb : base ≤ w0.heap.size) (hm : m ≤ 1000000)
  (hw1 : wantE ops.toList env ⟨some d1, .buildSlice t 1 #[(0, x)], ty1, pos1, after1, guard1⟩ = some true) (hd1 : Nat.blt d1 n = true)
  (ht : Tryz.T.get t = some ⟨.slc sz ag e, s, b, z, ua, u⟩) (het : Tryz.T.get e = some ie) (hz : ie.zero.length = sz) (hsz : Nat.blt 0 sz = true) (hlen : Nat.ble (1 * sz) 16777216 = true) (hby : Nat.ble ie.bytes 1000 = true)
  (hp : evO env x = some v1) (hv1 : v1.cells.toList = enc a)
  (hw2 : ∀ q, wantE ops.toList ((d1, q) :: env) ⟨some d2, .call ⟨.builtin .append, #[x2, .tmp d1], #[t, t]⟩, ty2, pos2, after2, guard2⟩ = some true) (hd2 : Nat.blt d2 n = true)
  (hx2 : ∀ q, evO ((d1, q) :: env) x2 = some v)
  (h : ∀ q y' w', w'.ownsRow base e sz y' (m + 1) (xs ++ enc a) → ExtB (fun k => v.ownBlock = some k) w0 w' → (∀ k, y'.ownBlock = some k → k < w0.heap.size → v.ownBlock = some k) → RunL Tryz.prog c n ds ops rest k Q ((d2, y') :: (d1, q) :: env) w') :
  RunL Tryz.prog c n ds ops (⟨some d1, .buildSlice t 1 #[(0, x)], ty1, pos1, after1, guard1⟩ :: ⟨some d2, .call ⟨.builtin .append, #[x2, .tmp d1], #[t, t]⟩, ty2, pos2, after2, guard2⟩ :: rest) k Q env w := by
 have hel : (enc a).length = sz := he.1 a
 refine RunL.ex hw1 hd1 rfl (OpE.buildSl Tryz.tOk [v1] ht het hz hlen (by show evParts env [(0, x)] = _; unfold evParts; rw [hp]; rfl) rfl (fun u hu => by rw [List.mem_singleton] at hu; subst hu; rw [hv1, hel])) ?_
 rintro _ w1 ⟨B, rfl, a1⟩
 have hcs : cellsAll [v1] = enc a := by show v1.cells.toList ++ [] = _; rw [hv1, List.append_nil]
 rw [hcs] at a1
 have hx1 : IsSl w1 sz (.slice (some ⟨B, 0, none⟩) 1 1) 1 (enc a) := isSl_added (n := 1) (sz := sz) a1 (by rw [hel, Nat.one_mul])
 have E1 : Ext w0 w1 := E.trans a1.ext
 have hO1 := ownsRow_ext hO E1 fun _ _ h => h
 have hpl : (enc a).all plainV = true := by have := flat_plain he [a]; rwa [flat_one] at this
 have hb1 : (m + 1) * ie.bytes ≤ 140737488355328 := by
  have h1 := Nat.le_of_ble_eq_true hby
  have h2 : (m + 1) * ie.bytes ≤ 1000001 * 1000 := Nat.mul_le_mul (by omega) h1
  omega
 refine RunL.ex (hw2 _) hd2 rfl (OpE.append' Tryz.tOk ht het hz hsz (hx2 _) (by show Env.get _ _ = _; rw [Env.get_cons_same]) hO1 hx1 hpl hb1 (by omega) (by have := E1.size; omega)) ?_
 rintro y' w2 ⟨O2, E2, hlt⟩
 refine h _ y' w2 O2 (ExtB.trans (ExtB.of_ext E1) E2) fun k hk hlt' => hlt k hk (by have := E1.size; omega)
end Go.Sg
end
section
set_option maxRecDepth 4000
namespace Go.Rn
open Go.RowKit Go.Rec
section
variable {P : Program} {w : World} {env : Env} {dst : Option Tmp} {ty : TypeId} {pos : String} {after : Array Edge} {guard : Option (Nat × Bool)}
theorem zerosL_flatX {α : Type} {enc : α → List Value} (x : α) : ∀ n, zerosL (enc x) n = flat enc (List.replicate n x)
 | 0 => rfl
 | n + 1 => by rw [List.replicate_succ, flat_cons, ← zerosL_flatX x n]; rfl
theorem OpE.makeX {α : Type} {enc : α → List Value} {k : Nat} (h : EncOk enc k) {T : Tab} (hT : T.Ok P) {t e : TypeId} {ag : Bool} {s bb : Nat} {z : List Value} {a u : Bool} {ie : TI} {x y : Operand} {kl kc : IntKind} {i j : Int} (n : Nat) (x0 : α)
  (ht : T.get t = some ⟨.slc k ag e, s, bb, z, a, u⟩) (he : T.get e = some ie) (hz : ie.zero = enc x0)
  (hx : evO env x = some (.int kl i)) (hy : evO env y = some (.int kc j)) (hi : i = (n : Int)) (hj : j = (n : Int)) (hb : ie.bytes * n ≤ 281474976710656) (h63 : n ≤ 9223372036854775807) :
  OpE P env w ⟨dst, .makeSlice t x y, ty, pos, after, guard⟩ (fun v w' => (∃ B, v = .slice (some ⟨B, 0, none⟩) n n ∧ w.heap.size ≤ B ∧ Blk w' B (flat enc (List.replicate n x0)) e) ∧ Ext w w') fun _ _ => False := by
 refine OpE.mono (OpE.make hT ht he (by rw [hz, h.len]) hx hy hi hj (Nat.le_refl _) hb h63) ?_ fun _ _ h => h
 rintro _ w' ⟨B, rfl, a⟩
 rw [hz, zerosL_flatX] at a
 exact ⟨⟨B, rfl, by rw [a.eq]; exact Nat.le_refl _, a.at_⟩, a.ext⟩
theorem OpE.allocX {T : Tab} (hT : T.Ok P) {t : TypeId} {i : TI} (ht : T.get t = some i) :
  OpE P env w ⟨dst, .alloc t, ty, pos, after, guard⟩ (fun v w' => ∃ B, v = .pointer (some ⟨B, 0, none⟩) ∧ Added w w' B (.cells i.zero.toArray t (0, 0))) fun _ _ => False := fun ρ hρ => by
 obtain ⟨j, dd, z, hj, hd, hz, h1, h2, h3, h4, h5, _⟩ := TI.inv (hT.get _ _ ht)
 refine ExecE.of_value (w' := { w with heap := w.heap.push (.cells i.zero.toArray t) }) (v := .pointer (some ⟨w.heap.size, 0, none⟩)) ?_ ⟨_, rfl, added_push w _⟩
 simp only [execOp, Instr.alloc]
 have hzv : (zeroValue t).run P w = .ok z w := by unfold zeroValue; rw [run_bind _ _ (run_typeInfo hj), hz]; rfl
 refine Eq.trans (run_bind (v := .pointer (some ⟨w.heap.size, 0, none⟩)) (w' := { w with heap := w.heap.push (.cells i.zero.toArray t) }) _ _ ?_) rfl
 rw [run_bind _ _ hzv]
 rw [h3]
 rfl
theorem OpE.boxX {t : TypeId} {x : Operand} {v : Value} (hx : evO env x = some v) :
  OpE P env w ⟨dst, .box t x, ty, pos, after, guard⟩ (fun r w' => ∃ B, r = .pointer (some ⟨B, 0, none⟩) ∧ Added w w' B (.cells v.cells t (0, 0))) fun _ _ => False := fun ρ hρ => by
 refine ExecE.of_value (w' := { w with heap := w.heap.push (.cells v.cells t) }) (v := .pointer (some ⟨w.heap.size, 0, none⟩)) ?_ ⟨_, rfl, added_push w _⟩
 simp only [execOp, Instr.box, hρ _ _ hx]
 rfl
end
theorem OpE.storeX {P : Program} {w : World} {env : Env} {ty : TypeId} {pos : String} {after : Array Edge} {guard : Option (Nat × Bool)} {T : Tab} (hT : T.Ok P) {t bt : TypeId} {i : TI} {x y : Operand} {b : Nat} {cs vs : List Value}
  (hx : evO env x = some (.pointer (some ⟨b, 0, none⟩))) (hy : evO env y = some (.agg vs.toArray)) (ht : T.get t = some i) (hsz : vs.length = i.size) (hb : Blk w b cs bt) (hlen : cs.length = vs.length) (hp : vs.all plainV = true) :
  OpE P env w ⟨none, .store t x y, ty, pos, after, guard⟩ (fun _ w' => Turned w w' b (.cells vs.toArray bt (0, 0))) fun _ _ => False := by
 refine OpE.mono (OpE.store hT hx hy ht hsz hb ?_ hp) ?_ fun _ _ h => h
 ·show Nat.ble (0 + vs.length) cs.length = true
  rw [Nat.zero_add, hlen, Nat.ble_eq]; exact Nat.le_refl _
 ·rintro _ w' t'
  have e : setAt cs 0 (Value.agg vs.toArray).cells.toList = vs := setAt_whole hlen
  rw [e] at t'; exact t'
theorem mapW_ne {α β γ : Type} [DecidableEq α] {kv : α → Value} {ev : β → Value} {ev' : γ → Value} {w : World} {R R' : Nat} {m : List (α × β)} (h : MapW w R kv ev m) (h' : MapW w R' kv ev' ([] : List (α × γ))) (hm : m ≠ []) : R ≠ R' := fun e => by
 subst e
 obtain ⟨es, c, h1, h2, -⟩ := h
 obtain ⟨es', c', h1', h2', -⟩ := h'
 rw [h1] at h1'
 injection h1' with h1'; injection h1' with h3 _
 subst h3
 have := congrArg List.length (h2.1.symm.trans h2'.1)
 simp at this
 exact hm this
theorem mapW_uniq {w : World} {R : Nat} {m m' : List (Int × Value)} (h : MapW w R (Value.int IntKind.i64) (fun v : Value => v) m) (h' : MapW w R (Value.int IntKind.i64) (fun v : Value => v) m') : m = m' := by
 obtain ⟨es, c, h1, h2, -⟩ := h
 obtain ⟨es', c', h1', h2', -⟩ := h'
 rw [h1] at h1'
 injection h1' with h1'; injection h1' with h3 _
 subst h3
 have he := h2.1.symm.trans h2'.1
 clear h1 h2 h2'
 induction m generalizing m' with
 | nil => cases m' with
  | nil => rfl
  | cons y m' => simp at he
 | cons x m ih => cases m' with
  | nil => simp at he
  | cons y m' =>
   obtain ⟨a, b⟩ := x
   obtain ⟨c, d⟩ := y
   simp only [List.map_cons, List.cons.injEq, Prod.mk.injEq] at he
   obtain ⟨⟨h1, h2⟩, h3⟩ := he
   injection h1 with _ h1
   rw [h1, h2, ih h3]
theorem ev_list {ρ : Operand → Value} {env : Env} (h : ∀ x v, evO env x = some v → ρ x = v) : ∀ (sats : List (Nat × Pred)), ∀ x v, evO ((sats.map fun s => (s.1, ρ (.tmp s.1))) ++ env) x = some v → ρ x = v
 | [] => h
 | s :: r => ev_cons (ev_list h r) rfl
section
variable {P : Program} {c : Ctx} {k : List Item} {Q : Out → Act → World → Prop} {w0 : World} {n : Nat} {ds : List Deferred} {env : Env} {S : Nat → Prop} {sats pres : List (Nat × Pred)} {ph : Option (Option Nat × Pred)} {mu : List Bool}
variable {l : List Oper} {d : Tmp} {op : Op} {ty : TypeId} {pos : String} {after : Array Edge} {guard : Option (Nat × Bool)} {rest : List Oper}
theorem Asy.satN (V : Pred) (hw : wantE l env ⟨some d, op, ty, pos, after, guard⟩ = some true) (hdst : Nat.blt d n = true) (hd : isDefer op = false) (hs : isSel op = false)
  (hV : ∀ v w' w'', ExtB S w0 w' → ExtB S w' w'' → V v w' → V v w'')
  (h : ∀ w' (xs : Nat → Value), ExtB S w0 w' → (∀ p ∈ sats, (Oper.looksAt l.toArray ⟨some d, op, ty, pos, after, guard⟩).contains p.1 = true → p.2 (xs p.1) w') → OpE P ((sats.map fun s => (s.1, xs s.1)) ++ env) w' ⟨some d, op, ty, pos, after, guard⟩ (fun u w'' => Ext w' w'' ∧ V u w'') fun _ _ => False)
  (h' : Asy P c n ds S w0 l k Q rest ⟨env.del (some d), (d, V) :: sats, ph, false :: mu, pres⟩) : Asy P c n ds S w0 l k Q (⟨some d, op, ty, pos, after, guard⟩ :: rest) ⟨env, sats, ph, mu, pres⟩ :=
 .step (e := .sat V) ⟨hdst, hs, hw, hd, hV, fun w' ρ hx hg => h w' (fun t => ρ (.tmp t)) hx (fun p hp hl => hg.sat p.1 p.2 hp (by simpa using hl)) ρ (ev_list hg.ev sats)⟩ h'
end
end Go.Rn
end
