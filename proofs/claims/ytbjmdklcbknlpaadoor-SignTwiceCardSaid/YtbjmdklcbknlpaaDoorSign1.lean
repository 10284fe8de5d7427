/- sign: the list that is hashed. -/
import Derived.Test.YtbjmdklcbknlpaaDoorRCod3
import Derived.Test.YtbjmdklcbknlpaaDoorSha6
import Derived.Test.YtbjmdklcbknlpaaDoorGroupFacts
namespace Go.Rn
open Go.RowKit Go.Lib
variable {P : Program} {w : World} {env : Env} {dst : Option Tmp} {ty : TypeId} {pos : String} {after : Array Edge} {guard : Option (Nat × Bool)}
theorem OpV.b2sSl {T : Tab} (hT : T.Ok P) {t t' e : TypeId} {ag : Bool} {s bb s' bb' s2 bb2 : Nat} {z z' z2 : List Value} {a u a' u' a2 u2 : Bool} {x : Operand} {v : Value} {l : List UInt8} {n : Nat}
    (ht : T.get t = some ⟨.slc 1 ag e, s, bb, z, a, u⟩) (ht' : T.get t' = some ⟨.str, s', bb', z', a', u'⟩) (he : T.get e = some ⟨.int .u8, s2, bb2, z2, a2, u2⟩)
    (hx : evO env x = some v) (hv : IsSl w 1 v n (bytesV l)) :
    OpV P env w ⟨dst, .convert t t' x, ty, pos, after, guard⟩ (.string (strOf l)) := by
  rcases hv.inv with ⟨d, rfl, rfl, he0⟩ | ⟨b, o, cap, rfl, hr, hl, -⟩
  · have hl0 : l = [] := by cases l with | nil => rfl | cons => simp [bytesV] at he0
    subst hl0
    refine .of_run fun ρ hρ => ⟨_, by simp only [execOp, hρ _ _ hx]; rfl, ?_⟩
    obtain ⟨hu, -⟩ := TD.of_slc (TI.tdof (hT.get _ _ ht)).symm
    have hu' := TD.of_str (TI.tdof (hT.get _ _ ht')).symm
    have hue := TD.of_int (TI.tdof (hT.get _ _ he)).symm
    rw [run_convert_bytes_string w t t' e d 0 0 hu hue hu']
    cases d <;> rfl
  · exact OpV.b2s hT ht ht' he hx hr (by rw [bytesV_length] at hl; omega)
end Go.Rn
namespace Go.Cod
open Go.Rn Go.Sha
inductive ArgIn (w : World) : CV → Value → Prop where
  | int {n : Int} (h : -9223372036854775808 ≤ n ∧ n < 9223372036854775808) : ArgIn w (.int n) (.iface 3 (.int .i64 n))
  | text {s : List UInt8} {v : Value} (h : IsSl w 1 v s.length (bytesV s)) (hl : s.length ≤ 1000000000) : ArgIn w (.text s) (.iface 22 v)
theorem ArgIn.ext {w w' : World} {c : CV} {a : Value} (h : ArgIn w c a) (e : Ext w w') : ArgIn w' c a := by
  cases h with
  | int h => exact .int h
  | text h hl => exact .text (h.extE e) hl
def rowOf : CV → List Value
  | .int n => [.int .i64 1, .int .i64 n, .string ⟨#[]⟩, .slice none 0 0]
  | .text s => [.int .i64 2, .int .i64 0, .string (strOf s), .slice none 0 0]
  | .list _ => []
theorem ArgIn.in_ {w w' : World} {c : CV} {a : Value} (h : ArgIn w c a) : c.In w' (rowOf c) := by
  cases h with
  | int h => exact ⟨h, _, rfl⟩
  | text h hl => exact ⟨hl, _, rfl⟩
theorem ArgIn.depth {w : World} {c : CV} {a : Value} (h : ArgIn w c a) : c.depth = 0 := by cases h <;> rfl
theorem ins_rows {w : World} : ∀ (l : List CV), (∀ c ∈ l, c.In w (rowOf c)) → Ins w l (l.map rowOf)
  | [], _ => by simp [Ins]
  | c :: l, h => by
    simp only [Ins, List.map_cons]
    exact ⟨_, _, rfl, h c List.mem_cons_self, ins_rows l fun c hc => h c (List.mem_cons_of_mem _ hc)⟩
theorem depths_zero : ∀ (l : List CV), (∀ c ∈ l, c.depth = 0) → depths l = 0
  | [], _ => rfl
  | c :: l, h => by simp only [depths]; rw [h c List.mem_cons_self, depths_zero l fun c hc => h c (List.mem_cons_of_mem _ hc)]; rfl
theorem rows_take {l : List CV} {i : Nat} {c : CV} (h : l[i]? = some c) : ((l.take (i + 1)).map rowOf).flatten = ((l.take i).map rowOf).flatten ++ rowOf c := by
  rw [List.take_add_one, h]; simp
end Go.Cod
namespace Go.Sg
open Go.Rn Go.Sha Go.Cod Go.Proofs
attribute [local irreducible] Go.Rn.RunL Go.Rn.RunE Go.Rn.Asy Go.Rn.OpV Go.Rn.OpE Go.Rn.ExecE

set_option maxHeartbeats 2000000 in
theorem list_ok (l : List CV) (v : Value) (vs : List Value) (w : World) (hv : IsSl w 1 v l.length vs) (ha : ∀ (i : Nat) (c : CV), l[i]? = some c → ∃ a, vs[i]? = some a ∧ ArgIn w c a) (hl : l.length ≤ 1000)
    (he : (CV.list l).enc.length ≤ 900000) :
    Rets Tryd.prog 33 [v] w fun r w' => w'.ownsRow w.heap.size 5 1 r (CV.list l).enc.length (bytesV (CV.list l).enc) ∧ Ext w w' := by
  refine RetsX.of (nt := 46) Tryd.func33 (by kernel_rfl) rfl rfl (by simp) (by simp only [argEnv]; rfl) ?_
  repeat (first | refine RunL.pureI Tryd.tOk rfl rfl rfl (by (first | exact wr_i64 (by omega) (by omega) | exact wm_i64 (by omega) | exact wq_i64 (by omega) (by omega) (by omega) | rfl)) ?_ | refine RunL.pure Tryd.tOk rfl rfl rfl ?_ | refine RunL.unwantedD rfl rfl ?_ | refine RunE.seq ?_ | refine RunE.region ?_ | refine RunL.nil ?_ | refine RunE.block ?_ | refine RunE.inBlock ?_ | refine RunE.skip ?_ | refine RunE.exit rfl ?_ | refine RunE.scope ?_ | refine RunE.inScope ?_ | refine RunE.label ?_)
  refine RunL.alloc Tryd.tOk rfl rfl rfl fun B3 w1 a1 => ?_
  have hB3 := a1.eq
  have z1 := a1.size
  repeat (first | refine RunL.pureI Tryd.tOk rfl rfl rfl (by (first | exact wr_i64 (by omega) (by omega) | exact wm_i64 (by omega) | exact wq_i64 (by omega) (by omega) (by omega) | rfl)) ?_ | refine RunL.pure Tryd.tOk rfl rfl rfl ?_ | refine RunL.unwantedD rfl rfl ?_ | refine RunE.seq ?_ | refine RunE.region ?_ | refine RunL.nil ?_ | refine RunE.block ?_ | refine RunE.inBlock ?_ | refine RunE.skip ?_ | refine RunE.exit rfl ?_ | refine RunE.scope ?_ | refine RunE.inScope ?_ | refine RunE.label ?_)
  refine RunL.store Tryd.tOk rfl rfl rfl rfl rfl (cs := [.int .i64 0, .int .i64 0, .string ⟨#[]⟩, .slice none 0 0]) a1.at_ rfl rfl fun w2 t2 => ?_
  have Z2 : Blk w2 B3 [.int .i64 3, .int .i64 0, .string ⟨#[]⟩, .slice none 0 0] 48 := t2.at_
  have X2 : Ext w w2 := a1.ext.write t2.ext (by intro i hi hlt; subst hi; omega)
  have z2 := t2.size
  clear a1 t2
  repeat (first | refine RunL.pureI Tryd.tOk rfl rfl rfl (by (first | exact wr_i64 (by omega) (by omega) | exact wm_i64 (by omega) | exact wq_i64 (by omega) (by omega) (by omega) | rfl)) ?_ | refine RunL.pure Tryd.tOk rfl rfl rfl ?_ | refine RunL.unwantedD rfl rfl ?_ | refine RunE.seq ?_ | refine RunE.region ?_ | refine RunL.nil ?_ | refine RunE.block ?_ | refine RunE.inBlock ?_ | refine RunE.skip ?_ | refine RunE.exit rfl ?_ | refine RunE.scope ?_ | refine RunE.inScope ?_ | refine RunE.label ?_)
  refine RunL.val rfl rfl rfl (OpV.lenSl Tryd.tOk rfl rfl hv) ?_
  repeat (first | refine RunL.pureI Tryd.tOk rfl rfl rfl (by (first | exact wr_i64 (by omega) (by omega) | exact wm_i64 (by omega) | exact wq_i64 (by omega) (by omega) (by omega) | rfl)) ?_ | refine RunL.pure Tryd.tOk rfl rfl rfl ?_ | refine RunL.unwantedD rfl rfl ?_ | refine RunE.seq ?_ | refine RunE.region ?_ | refine RunL.nil ?_ | refine RunE.block ?_ | refine RunE.inBlock ?_ | refine RunE.skip ?_ | refine RunE.exit rfl ?_ | refine RunE.scope ?_ | refine RunE.inScope ?_ | refine RunE.label ?_)
  refine RunE.loop (ι := Nat × Value) (fun x => [(3, .pointer (some ⟨B3, 0, none⟩)), (11, v), (12, .int .i64 (l.length : Int)), (13, .int .i64 (x.1 : Int))])
    (fun x w' => x.1 ≤ l.length ∧ Ext w w' ∧ Blk w' B3 [.int .i64 3, .int .i64 0, .string ⟨#[]⟩, x.2] 48 ∧ w'.ownsRow (B3 + 1) 48 4 x.2 x.1 ((l.take x.1).map rowOf).flatten) (fun x => l.length - x.1) (0, .slice none 0 0) (by repeat (first | exact Sub.nil _ | refine Sub.cons rfl ?_)) ⟨by simp, X2, Z2, World.ownsRow_nil _ _ _ _⟩ ?_
  clear X2 Z2
  rintro ⟨i, u⟩ w3 ⟨hi, X3, Z3, O3⟩ again
  simp only at hi Z3 O3 again ⊢
  have hz3 := X3.size
  have hB := Z3.lt
  repeat (first | refine RunL.pureI Tryd.tOk rfl rfl rfl (by (first | exact wr_i64 (by omega) (by omega) | exact wm_i64 (by omega) | exact wq_i64 (by omega) (by omega) (by omega) | rfl)) ?_ | refine RunL.pure Tryd.tOk rfl rfl rfl ?_ | refine RunL.unwantedD rfl rfl ?_ | refine RunE.seq ?_ | refine RunE.region ?_ | refine RunL.nil ?_ | refine RunE.block ?_ | refine RunE.inBlock ?_ | refine RunE.skip ?_ | refine RunE.exit rfl ?_ | refine RunE.scope ?_ | refine RunE.inScope ?_ | refine RunE.label ?_)
  refine RunE.cond rfl (fun hlt => ?_) (fun hlt => ?_) <;> (first | replace hlt := of_decide_eq_true hlt | replace hlt := of_decide_eq_false hlt | replace hlt := beq_iff_eq.1 hlt | replace hlt := beq_eq_false_iff_ne.1 hlt | replace hlt := bne_iff_ne.1 hlt | replace hlt := bne_eq_false_iff_eq.1 hlt | skip)
  · have hi' : i < l.length := by omega
    obtain ⟨c, hc⟩ : ∃ c, l[i]? = some c := ⟨_, List.getElem?_eq_getElem hi'⟩
    obtain ⟨a, haa, hac⟩ := ha i c hc
    obtain ⟨b, o, cap, rfl, hrow, -, -⟩ := hv.held (by omega)
    repeat (first | refine RunL.pureI Tryd.tOk rfl rfl rfl (by (first | exact wr_i64 (by omega) (by omega) | exact wm_i64 (by omega) | exact wq_i64 (by omega) (by omega) (by omega) | rfl)) ?_ | refine RunL.pure Tryd.tOk rfl rfl rfl ?_ | refine RunL.unwantedD rfl rfl ?_ | refine RunE.seq ?_ | refine RunE.region ?_ | refine RunL.nil ?_ | refine RunE.block ?_ | refine RunE.inBlock ?_ | refine RunE.skip ?_ | refine RunE.exit rfl ?_ | refine RunE.scope ?_ | refine RunE.inScope ?_ | refine RunE.label ?_)
    refine RunL.val rfl rfl rfl (OpV.indexS Tryd.tOk i rfl rfl rfl rfl hi') ?_
    refine RunL.val rfl rfl rfl (OpV.load1 (v := a) Tryd.tOk rfl rfl rfl ((hrow.extE X3) _ _ (by simpa using haa))) ?_
    cases hac with
    | @int n hn =>
      repeat (first | refine RunL.pureI Tryd.tOk rfl rfl rfl (by (first | exact wr_i64 (by omega) (by omega) | exact wm_i64 (by omega) | exact wq_i64 (by omega) (by omega) (by omega) | rfl)) ?_ | refine RunL.pure Tryd.tOk rfl rfl rfl ?_ | refine RunL.unwantedD rfl rfl ?_ | refine RunE.seq ?_ | refine RunE.region ?_ | refine RunL.nil ?_ | refine RunE.block ?_ | refine RunE.inBlock ?_ | refine RunE.skip ?_ | refine RunE.exit rfl ?_ | refine RunE.scope ?_ | refine RunE.inScope ?_ | refine RunE.label ?_)
      refine RunL.val rfl rfl rfl (OpV.assertT (v := .int .i64 n) rfl (TD.of_int (TI.tdof (Tryd.tOk.get 3 _ rfl)).symm) rfl) ?_
      repeat (first | refine RunL.pureI Tryd.tOk rfl rfl rfl (by (first | exact wr_i64 (by omega) (by omega) | exact wm_i64 (by omega) | exact wq_i64 (by omega) (by omega) (by omega) | rfl)) ?_ | refine RunL.pure Tryd.tOk rfl rfl rfl ?_ | refine RunL.unwantedD rfl rfl ?_ | refine RunL.val rfl rfl rfl (OpV.indexAK Tryd.tOk rfl rfl rfl rfl) ?_ | refine RunL.val rfl rfl rfl (OpV.indexSK Tryd.tOk rfl rfl rfl rfl) ?_ | refine RunL.val rfl rfl rfl (OpV.load1 Tryd.tOk rfl rfl rfl (Blk.cell Z3 rfl)) ?_ | refine RunE.seq ?_ | refine RunE.region ?_ | refine RunL.nil ?_ | refine RunE.block ?_ | refine RunE.inBlock ?_ | refine RunE.skip ?_ | refine RunE.exit rfl ?_ | refine RunE.scope ?_ | refine RunE.inScope ?_ | refine RunE.label ?_)
      refine RunE.condT rfl rfl ?_
      repeat (first | refine RunL.pureI Tryd.tOk rfl rfl rfl (by (first | exact wr_i64 (by omega) (by omega) | exact wm_i64 (by omega) | exact wq_i64 (by omega) (by omega) (by omega) | rfl)) ?_ | refine RunL.pure Tryd.tOk rfl rfl rfl ?_ | refine RunL.unwantedD rfl rfl ?_ | refine RunL.val rfl rfl rfl (OpV.indexAK Tryd.tOk rfl rfl rfl rfl) ?_ | refine RunL.val rfl rfl rfl (OpV.indexSK Tryd.tOk rfl rfl rfl rfl) ?_ | refine RunL.val rfl rfl rfl (OpV.load1 Tryd.tOk rfl rfl rfl (Blk.cell Z3 rfl)) ?_ | refine RunE.seq ?_ | refine RunE.region ?_ | refine RunL.nil ?_ | refine RunE.block ?_ | refine RunE.inBlock ?_ | refine RunE.skip ?_ | refine RunE.exit rfl ?_ | refine RunE.scope ?_ | refine RunE.inScope ?_ | refine RunE.label ?_)
      refine RunL.ex rfl rfl rfl (OpE.buildSl Tryd.tOk [.agg (rowOf (.int n)).toArray] rfl rfl rfl rfl rfl rfl (by simp [Value.cells, rowOf])) ?_
      rintro _ w4 ⟨B, rfl, a4⟩
      have hB4 := a4.eq
      have X4 := X3.trans a4.ext
      have Z4 := Z3.ext a4.ext id
      have O4 := ownsRow_ext O3 a4.ext (fun _ _ h => h)
      have hz4 := a4.size
      refine RunL.ex rfl rfl rfl (OpE.append' Tryd.tOk rfl rfl rfl rfl rfl rfl O4 (isSl_added (n := 1) (sz := 4) a4 rfl) rfl (by show _ * 56 ≤ _; omega) (by omega) (by omega)) ?_
      rintro v5 w5 ⟨O5, E5, -⟩
      clear a4
      have X5 : Ext w w5 := X4.write E5 (by intro k hk hlt; have := ownsRow_ge O4 hk; omega)
      have Z5 := Z4.ext E5 (by intro hk; have := ownsRow_ge O4 hk; omega)
      obtain ⟨b5, o5, cap5, rfl, -, -, -⟩ := (isSl_own O5).held (by omega)
      repeat (first | refine RunL.pureI Tryd.tOk rfl rfl rfl (by (first | exact wr_i64 (by omega) (by omega) | exact wm_i64 (by omega) | exact wq_i64 (by omega) (by omega) (by omega) | rfl)) ?_ | refine RunL.pure Tryd.tOk rfl rfl rfl ?_ | refine RunL.unwantedD rfl rfl ?_ | refine RunE.seq ?_ | refine RunE.region ?_ | refine RunL.nil ?_ | refine RunE.block ?_ | refine RunE.inBlock ?_ | refine RunE.skip ?_ | refine RunE.exit rfl ?_ | refine RunE.scope ?_ | refine RunE.inScope ?_ | refine RunE.label ?_)
      refine RunL.store Tryd.tOk rfl rfl rfl rfl rfl Z5 rfl rfl fun w6 t6 => ?_
      have X6 : Ext w w6 := X5.write t6.ext (by intro k hk hlt; subst hk; omega)
      have Z6 : Blk w6 B3 [.int .i64 3, .int .i64 0, .string ⟨#[]⟩, .slice (some ⟨b5, o5, none⟩) (i + 1) cap5] 48 := t6.at_
      have O6 := ownsRow_ext O5 t6.ext (fun k hk e => by have := ownsRow_ge O5 hk; omega)
      clear t6
      repeat (first | refine RunL.pureI Tryd.tOk rfl rfl rfl (by (first | exact wr_i64 (by omega) (by omega) | exact wm_i64 (by omega) | exact wq_i64 (by omega) (by omega) (by omega) | rfl)) ?_ | refine RunL.pure Tryd.tOk rfl rfl rfl ?_ | refine RunL.unwantedD rfl rfl ?_ | refine RunE.seq ?_ | refine RunE.region ?_ | refine RunL.nil ?_ | refine RunE.block ?_ | refine RunE.inBlock ?_ | refine RunE.skip ?_ | refine RunE.exit rfl ?_ | refine RunE.scope ?_ | refine RunE.inScope ?_ | refine RunE.label ?_)
      refine RunE.weaken (by repeat (first | exact Sub.nil _ | refine Sub.cons rfl ?_)) (again (i + 1, _) _ (by simp only; omega) ⟨by simp only; omega, X6, Z6, ?_⟩)
      simp only
      rw [rows_take hc]; exact O6
    | @text s sv hs hsl =>
      repeat (first | refine RunL.pureI Tryd.tOk rfl rfl rfl (by (first | exact wr_i64 (by omega) (by omega) | exact wm_i64 (by omega) | exact wq_i64 (by omega) (by omega) (by omega) | rfl)) ?_ | refine RunL.pure Tryd.tOk rfl rfl rfl ?_ | refine RunL.unwantedD rfl rfl ?_ | refine RunE.seq ?_ | refine RunE.region ?_ | refine RunL.nil ?_ | refine RunE.block ?_ | refine RunE.inBlock ?_ | refine RunE.skip ?_ | refine RunE.exit rfl ?_ | refine RunE.scope ?_ | refine RunE.inScope ?_ | refine RunE.label ?_)
      refine RunL.val rfl rfl rfl (OpV.assertF rfl rfl (TD.of_int (TI.tdof (Tryd.tOk.get 3 _ rfl)).symm) rfl (zv := .int .i64 0) (by kernel_rfl)) ?_
      repeat (first | refine RunL.pureI Tryd.tOk rfl rfl rfl (by (first | exact wr_i64 (by omega) (by omega) | exact wm_i64 (by omega) | exact wq_i64 (by omega) (by omega) (by omega) | rfl)) ?_ | refine RunL.pure Tryd.tOk rfl rfl rfl ?_ | refine RunL.unwantedD rfl rfl ?_ | refine RunL.val rfl rfl rfl (OpV.indexAK Tryd.tOk rfl rfl rfl rfl) ?_ | refine RunL.val rfl rfl rfl (OpV.indexSK Tryd.tOk rfl rfl rfl rfl) ?_ | refine RunL.val rfl rfl rfl (OpV.load1 Tryd.tOk rfl rfl rfl (Blk.cell Z3 rfl)) ?_ | refine RunE.seq ?_ | refine RunE.region ?_ | refine RunL.nil ?_ | refine RunE.block ?_ | refine RunE.inBlock ?_ | refine RunE.skip ?_ | refine RunE.exit rfl ?_ | refine RunE.scope ?_ | refine RunE.inScope ?_ | refine RunE.label ?_)
      refine RunE.condF rfl rfl ?_
      repeat (first | refine RunL.pureI Tryd.tOk rfl rfl rfl (by (first | exact wr_i64 (by omega) (by omega) | exact wm_i64 (by omega) | exact wq_i64 (by omega) (by omega) (by omega) | rfl)) ?_ | refine RunL.pure Tryd.tOk rfl rfl rfl ?_ | refine RunL.unwantedD rfl rfl ?_ | refine RunE.seq ?_ | refine RunE.region ?_ | refine RunL.nil ?_ | refine RunE.block ?_ | refine RunE.inBlock ?_ | refine RunE.skip ?_ | refine RunE.exit rfl ?_ | refine RunE.scope ?_ | refine RunE.inScope ?_ | refine RunE.label ?_)
      refine RunL.val rfl rfl rfl (OpV.assertT (v := sv) rfl (TD.of_slc (TI.tdof (Tryd.tOk.get 22 _ rfl)).symm).1 rfl) ?_
      repeat (first | refine RunL.pureI Tryd.tOk rfl rfl rfl (by (first | exact wr_i64 (by omega) (by omega) | exact wm_i64 (by omega) | exact wq_i64 (by omega) (by omega) (by omega) | rfl)) ?_ | refine RunL.pure Tryd.tOk rfl rfl rfl ?_ | refine RunL.unwantedD rfl rfl ?_ | refine RunL.val rfl rfl rfl (OpV.indexAK Tryd.tOk rfl rfl rfl rfl) ?_ | refine RunL.val rfl rfl rfl (OpV.indexSK Tryd.tOk rfl rfl rfl rfl) ?_ | refine RunL.val rfl rfl rfl (OpV.load1 Tryd.tOk rfl rfl rfl (Blk.cell Z3 rfl)) ?_ | refine RunE.seq ?_ | refine RunE.region ?_ | refine RunL.nil ?_ | refine RunE.block ?_ | refine RunE.inBlock ?_ | refine RunE.skip ?_ | refine RunE.exit rfl ?_ | refine RunE.scope ?_ | refine RunE.inScope ?_ | refine RunE.label ?_)
      refine RunE.condT rfl rfl ?_
      repeat (first | refine RunL.pureI Tryd.tOk rfl rfl rfl (by (first | exact wr_i64 (by omega) (by omega) | exact wm_i64 (by omega) | exact wq_i64 (by omega) (by omega) (by omega) | rfl)) ?_ | refine RunL.pure Tryd.tOk rfl rfl rfl ?_ | refine RunL.unwantedD rfl rfl ?_ | refine RunL.val rfl rfl rfl (OpV.indexAK Tryd.tOk rfl rfl rfl rfl) ?_ | refine RunL.val rfl rfl rfl (OpV.indexSK Tryd.tOk rfl rfl rfl rfl) ?_ | refine RunL.val rfl rfl rfl (OpV.load1 Tryd.tOk rfl rfl rfl (Blk.cell Z3 rfl)) ?_ | refine RunE.seq ?_ | refine RunE.region ?_ | refine RunL.nil ?_ | refine RunE.block ?_ | refine RunE.inBlock ?_ | refine RunE.skip ?_ | refine RunE.exit rfl ?_ | refine RunE.scope ?_ | refine RunE.inScope ?_ | refine RunE.label ?_)
      refine RunL.val rfl rfl rfl (OpV.b2sSl (l := s) Tryd.tOk rfl rfl rfl rfl (hs.extE X3)) ?_
      repeat (first | refine RunL.pureI Tryd.tOk rfl rfl rfl (by (first | exact wr_i64 (by omega) (by omega) | exact wm_i64 (by omega) | exact wq_i64 (by omega) (by omega) (by omega) | rfl)) ?_ | refine RunL.pure Tryd.tOk rfl rfl rfl ?_ | refine RunL.unwantedD rfl rfl ?_ | refine RunL.val rfl rfl rfl (OpV.indexAK Tryd.tOk rfl rfl rfl rfl) ?_ | refine RunL.val rfl rfl rfl (OpV.indexSK Tryd.tOk rfl rfl rfl rfl) ?_ | refine RunL.val rfl rfl rfl (OpV.load1 Tryd.tOk rfl rfl rfl (Blk.cell Z3 rfl)) ?_ | refine RunE.seq ?_ | refine RunE.region ?_ | refine RunL.nil ?_ | refine RunE.block ?_ | refine RunE.inBlock ?_ | refine RunE.skip ?_ | refine RunE.exit rfl ?_ | refine RunE.scope ?_ | refine RunE.inScope ?_ | refine RunE.label ?_)
      refine RunL.ex rfl rfl rfl (OpE.buildSl Tryd.tOk [.agg (rowOf (.text s)).toArray] rfl rfl rfl rfl rfl rfl (by simp [Value.cells, rowOf])) ?_
      rintro _ w4 ⟨B, rfl, a4⟩
      have hB4 := a4.eq
      have X4 := X3.trans a4.ext
      have Z4 := Z3.ext a4.ext id
      have O4 := ownsRow_ext O3 a4.ext (fun _ _ h => h)
      have hz4 := a4.size
      refine RunL.ex rfl rfl rfl (OpE.append' Tryd.tOk rfl rfl rfl rfl rfl rfl O4 (isSl_added (n := 1) (sz := 4) a4 rfl) rfl (by show _ * 56 ≤ _; omega) (by omega) (by omega)) ?_
      rintro v5 w5 ⟨O5, E5, -⟩
      clear a4
      have X5 : Ext w w5 := X4.write E5 (by intro k hk hlt; have := ownsRow_ge O4 hk; omega)
      have Z5 := Z4.ext E5 (by intro hk; have := ownsRow_ge O4 hk; omega)
      obtain ⟨b5, o5, cap5, rfl, -, -, -⟩ := (isSl_own O5).held (by omega)
      repeat (first | refine RunL.pureI Tryd.tOk rfl rfl rfl (by (first | exact wr_i64 (by omega) (by omega) | exact wm_i64 (by omega) | exact wq_i64 (by omega) (by omega) (by omega) | rfl)) ?_ | refine RunL.pure Tryd.tOk rfl rfl rfl ?_ | refine RunL.unwantedD rfl rfl ?_ | refine RunE.seq ?_ | refine RunE.region ?_ | refine RunL.nil ?_ | refine RunE.block ?_ | refine RunE.inBlock ?_ | refine RunE.skip ?_ | refine RunE.exit rfl ?_ | refine RunE.scope ?_ | refine RunE.inScope ?_ | refine RunE.label ?_)
      refine RunL.store Tryd.tOk rfl rfl rfl rfl rfl Z5 rfl rfl fun w6 t6 => ?_
      have X6 : Ext w w6 := X5.write t6.ext (by intro k hk hlt; subst hk; omega)
      have Z6 : Blk w6 B3 [.int .i64 3, .int .i64 0, .string ⟨#[]⟩, .slice (some ⟨b5, o5, none⟩) (i + 1) cap5] 48 := t6.at_
      have O6 := ownsRow_ext O5 t6.ext (fun k hk e => by have := ownsRow_ge O5 hk; omega)
      clear t6
      repeat (first | refine RunL.pureI Tryd.tOk rfl rfl rfl (by (first | exact wr_i64 (by omega) (by omega) | exact wm_i64 (by omega) | exact wq_i64 (by omega) (by omega) (by omega) | rfl)) ?_ | refine RunL.pure Tryd.tOk rfl rfl rfl ?_ | refine RunL.unwantedD rfl rfl ?_ | refine RunE.seq ?_ | refine RunE.region ?_ | refine RunL.nil ?_ | refine RunE.block ?_ | refine RunE.inBlock ?_ | refine RunE.skip ?_ | refine RunE.exit rfl ?_ | refine RunE.scope ?_ | refine RunE.inScope ?_ | refine RunE.label ?_)
      refine RunE.weaken (by repeat (first | exact Sub.nil _ | refine Sub.cons rfl ?_)) (again (i + 1, _) _ (by simp only; omega) ⟨by simp only; omega, X6, Z6, ?_⟩)
      simp only
      rw [rows_take hc]; exact O6
  · have hil : i = l.length := by omega
    subst hil
    rw [List.take_length] at O3
    repeat (first | refine RunL.pureI Tryd.tOk rfl rfl rfl (by (first | exact wr_i64 (by omega) (by omega) | exact wm_i64 (by omega) | exact wq_i64 (by omega) (by omega) (by omega) | rfl)) ?_ | refine RunL.pure Tryd.tOk rfl rfl rfl ?_ | refine RunL.unwantedD rfl rfl ?_ | refine RunE.seq ?_ | refine RunE.region ?_ | refine RunL.nil ?_ | refine RunE.block ?_ | refine RunE.inBlock ?_ | refine RunE.skip ?_ | refine RunE.exit rfl ?_ | refine RunE.scope ?_ | refine RunE.inScope ?_ | refine RunE.label ?_)
    have hd : (CV.list l).depth ≤ 16 := by
      simp only [CV.depth]
      rw [depths_zero l fun c hc => ?_]
      · omega
      · obtain ⟨i, hi⟩ := List.getElem?_of_mem hc
        obtain ⟨a, -, h⟩ := ha i c hi
        exact h.depth
    have hin : (CV.list l).In w3 [.int .i64 3, .int .i64 0, .string ⟨#[]⟩, u] := by
      simp only [CV.In]
      refine ⟨by omega, u, _, rfl, isSl_own O3, ins_rows l fun c hc => ?_⟩
      obtain ⟨i, hi⟩ := List.getElem?_of_mem hc
      obtain ⟨a, -, h⟩ := ha i c hi
      exact h.in_
    refine RunL.val rfl rfl rfl (OpV.loadN (cs := [.int .i64 3, .int .i64 0, .string ⟨#[]⟩, u]) Tryd.tOk rfl rfl rfl rfl Z3.row) ?_
    refine RunL.call rfl rfl rfl (encode_ok (.list l) _ w3 hin hd (by omega)) ?_
    rintro _ w4 ⟨r, rfl, O4, X4⟩
    repeat (first | refine RunL.pureI Tryd.tOk rfl rfl rfl (by (first | exact wr_i64 (by omega) (by omega) | exact wm_i64 (by omega) | exact wq_i64 (by omega) (by omega) (by omega) | rfl)) ?_ | refine RunL.pure Tryd.tOk rfl rfl rfl ?_ | refine RunL.unwantedD rfl rfl ?_ | refine RunE.seq ?_ | refine RunE.region ?_ | refine RunL.nil ?_ | refine RunE.block ?_ | refine RunE.inBlock ?_ | refine RunE.skip ?_ | refine RunE.exit rfl ?_ | refine RunE.scope ?_ | refine RunE.inScope ?_ | refine RunE.label ?_)
    exact RunE.retFn Tryd.func33 (.tmp rfl .nil) ⟨ownsRow_base O4 hz3, X3.trans X4⟩
end Go.Sg
