/- signatorytop.TopUnderway returns true for every input; condition: the package variable policies.kinds holds what the program lays in it (the card ties this). -/
import Derived.Test.YtlchncheagigpaaGreatDoorTu21
import Derived.Test.YtlchncheagigpaaGreatDoorTu20
set_option maxHeartbeats 32000000
set_option linter.unusedSimpArgs false
set_option linter.unusedVariables false
set_option linter.unusedSectionVars false
set_option maxRecDepth 4000
namespace Go.Sg
open Go.Rn Go.Proofs Go.Rec Go.RowKit Go.Jud Go.Doc Go.Pol Go.Bud
theorem topUnderway_walk (r : Rg) (sv : Value) (sg : List Int) (uv : Value) (us : List Us) (doc t kn : Int) (_ : -9223372036854775808 ≤ doc ∧ doc < 9223372036854775808) (_ : -9223372036854775808 ≤ t ∧ t < 9223372036854775808) (_ : -9223372036854775808 ≤ kn ∧ kn < 9223372036854775808) (W : World)
  (hI : RegIn W W.heap.size r) (hsg : IsL W intC 1 sv sg) (hus : IsL W Us.cells 5 uv us) (hK : Row W 0 0 kindsC) :
  Rets Tryz.prog 3 [rgV r, sv, uv, .int .i64 doc, .int .i64 t, .int .i64 kn] W fun v w' => v = .bool true ∧ Ext W w' :=
 topUnderway_core r sg us sv uv doc t kn W.heap.size W hI hsg hus hK
end Go.Sg
namespace Go.Proofs.YtlchncheagigpaaGreatDoor
open Go.ChangeShapes Go.WideShapes Go.ChangeAt Go.RowKit Go.Sg
namespace topUnderway
theorem own : ownKnob Tryz.prog.godebug = none := by kernel_rfl
theorem laidOut : laidOutB Tryz.prog = true := by kernel_rfl
theorem door_met (os : Os) (args : Array Value) : laidMetH Tryz.prog Rows.topUnderwayRow.laid ((World.doorLaid Tryz.prog 14 os).forCall (fun _ _ => 0) ⟨#[], args, []⟩).memory :=
 laidMetH_of_parts3 (fuel := 8) (laidMet_of_run' 8 (by kernel_rfl) (by kernel_rfl)) (by kernel_rfl) (by kernel_rfl)
set_option maxHeartbeats 8000000 in
set_option maxRecDepth 100000 in
theorem lifted (os : Os) (started : os.Started) (H : Type) (enc : TypeId × Value → H) :
  ReturnsInHanded {} Tryz.checked os 3 .any (fun w args => (Rows.topUnderwaySpec.pre enc Tryz.prog Tryz.f3 [] false w args ∧ laidMetH Tryz.prog Rows.topUnderwayRow.laid w) ∧ sizedMet enc Tryz.prog Tryz.f3 (OpenSpec.ofChange Rows.topUnderwaySpec) false w args)
   (Rows.topUnderwaySpec.post enc Tryz.prog Tryz.f3 false true false false) := by
 refine returnsInHanded_of_change_and (C := Tryz.checked) (X := fun w _ => laidMetH Tryz.prog Rows.topUnderwayRow.laid w) (fun _ _ _ hh h => h.of_heap hh) own started (by kernel_rfl) Tryz.func3
  (ChangeSpec.witness_shaped (enc := enc) (C := Tryz.checked) (os := os) (X := fun w _ => laidMetH Tryz.prog Rows.topUnderwayRow.laid w) false (World.doorLaid Tryz.prog 14 os) #[.agg #[.slice none 0 0, .slice none 0 0, .slice none 0 0, .slice none 0 0, .slice none 0 0, .slice none 0 0, .slice none 0 0], .slice none 0 0, .slice none 0 0, .int .i64 0, .int .i64 0, .int .i64 0] 8 rfl (World.shaped_of_RefB (by kernel_rfl) (by kernel_rfl)) (by kernel_rfl) (by kernel_rfl) (by kernel_rfl) (door_met os _)) ?_
 intro W base args ds gs before hval0 hW _ hwt hL _
 have hval : ∀ (j : Nat) t v, Tryz.f3.params[j]? = some t → args[j]? = some v → Value.okWide Tryz.prog W .any base t v := hval0
 have hW' := hW
 obtain ⟨p, q, hA0, hV, rfl, hfz, hnd⟩ := hW
 have hA : DataW.TrodAll enc Tryz.prog W 0 (fun _ => true) true Tryz.f3.params.toList args.toList ds p := hA0
 rw [Tryz.params3] at hA hval
 obtain ⟨v0, vs0, d0, ds0, p0, q0, hargs, rfl, rfl, h0, r0⟩ := trodAll_cons hA
 obtain ⟨v1, vs1, d1, ds1, p1, q1, rfl, rfl, rfl, h1, r1⟩ := trodAll_cons r0
 obtain ⟨v2, vs2, d2, ds2, p2, q2, rfl, rfl, rfl, h2, r2⟩ := trodAll_cons r1
 obtain ⟨v3, vs3, d3, ds3, p3, q3, rfl, rfl, rfl, h3, r3⟩ := trodAll_cons r2
 obtain ⟨v4, vs4, d4, ds4, p4, q4, rfl, rfl, rfl, h4, r4⟩ := trodAll_cons r3
 obtain ⟨v5, vs5, d5, ds5, p5, q5, rfl, rfl, rfl, h5, r5⟩ := trodAll_cons r4
 obtain ⟨rfl, rfl, rfl⟩ := trodAll_nil r5
 obtain rfl : args = #[v0, v1, v2, v3, v4, v5] := by cases args; simp_all
 obtain ⟨x0, rfl, m0⟩ := reg_open (hval 0 30 v0 rfl rfl) h0
 obtain ⟨l1, m1⟩ := ints_open (hval 1 31 v1 rfl rfl) h1
 obtain ⟨l2, m2⟩ := uses_open (hval 2 32 v2 rfl rfl) h2
 obtain ⟨a3, rfl, rfl, rfl, w3⟩ := open_int Tryz.underlying3 (hval 3 3 v3 rfl rfl) h3
 obtain ⟨a4, rfl, rfl, rfl, w4⟩ := open_int Tryz.underlying3 (hval 4 3 v4 rfl rfl) h4
 obtain ⟨a5, rfl, rfl, rfl, w5⟩ := open_int Tryz.underlying3 (hval 5 3 v5 rfl rfl) h5
 have L0 := kinds_of_laid (by kernel_rfl) rfl (.head _) hL
 refine (Rets.calls (topUnderway_walk x0 v1 l1 v2 l2 a3 a4 a5 (i64_of_wf w3) (i64_of_wf w4) (i64_of_wf w5) W m0 m1 m2 L0)).mono fun e W' he => ?_
 obtain ⟨_, rfl, rfl, hx⟩ := he
 exact ⟨_, rfl, law_post (t := 4) laidOut (by kernel_rfl) (by kernel_rfl) (by kernel_rfl) rfl (fun ds h => by
  rcases ds with _ | ⟨_, _ | ⟨_, _ | ⟨_, _ | ⟨_, _ | ⟨_, _ | ⟨_, _ | ⟨_, _⟩⟩⟩⟩⟩⟩⟩ <;> first | rfl | (exact absurd h (by decide)) | (simp at h)) hW' hx⟩

theorem holds : Rows.TopUnderwaySaid :=
 OpenClaim.holds_of_wide 3 Tryz.f3 rfl rfl rfl rfl rfl rfl rfl ⟨rfl, rfl, rfl, rfl, rfl⟩ rfl rfl rfl rfl rfl (by kernel_rfl) Tryz.func3 (by kernel_rfl)
  (of_decide_eq_true (by kernel_rfl)) (by unfold Func.isWrapper; first | (rw [if_pos (by decide +kernel)]; kernel_rfl) | (rw [if_neg (by decide +kernel)]; exact ⟨rfl, rfl⟩))
  (fun os started H enc _ => lifted os started H enc)
theorem proved : Rows.TopUnderwayCardSaid :=
 Claim7.holds_tied_plain_at .later [] [.funcs] true (true, "b9e7264a8c864994449eae019140d585c06e8b43cda5f9570a73b15c4bd99dd7") true
  holds (fun _ h => by cases h) (by kernel_rfl) (fun _ h => by cases h) topUnderway_row_tie rfl ⟨rfl, rfl⟩ (by kernel_rfl) rfl
  (fun f fn hf hfn => by
   obtain rfl : f = 3 := Option.some.inj ((show Tryz.prog.funcNamed Tryz.f3.name = some 3 by kernel_rfl).symm.trans hf) |>.symm
   obtain rfl : fn = Tryz.f3 := (Option.some.inj (Tryz.func3.symm.trans hfn)).symm
   exact ⟨by kernel_rfl, fun j t ht => by
    have hall : Tryz.f3.params.toList.all (fun t => !Tryz.prog.wantsStandIn t) = true := by kernel_rfl
    have hm : t ∈ Tryz.f3.params.toList := by
     obtain ⟨hj, rfl⟩ := Array.getElem?_eq_some_iff.1 ht
     simp
    have := List.all_eq_true.1 hall t hm
    exact (by simpa using this : Tryz.prog.wantsStandIn t = false)⟩)
  (by kernel_rfl)
#print axioms proved
end topUnderway
end Go.Proofs.YtlchncheagigpaaGreatDoor
