/- Parts of this project that the claims share: Sign1, Sign2, DeeS, DeeR, Map, MapB, DeeM, CmpB, RecOps, Dee1, Whole, Dee2, Build, Sign3. -/
import Derived.Test.YtpmpefkcmokoiaaDoorDa04
import Derived.Test.YtpmpefkcmokoiaaDoorDa05
import Derived.Test.YtpmpefkcmokoiaaDoorDa03
import Derived.ChangeKeysEq
import Derived.Laws.StructEq
import Derived.Lib.Bytealg
import Derived.Laws.Externs
import Derived.Lib.AppendZerosOnto
import Derived.Lib.Overlaps
set_option linter.unusedSimpArgs false
set_option linter.unusedVariables false
set_option linter.unusedSectionVars false
section
/- sign: the list that is hashed. -/
namespace Go.Rn
open Go.RowKit Go.Lib
variable {P : Program} {w : World} {env : Env} {dst : Option Tmp} {ty : TypeId} {pos : String} {after : Array Edge} {guard : Option (Nat × Bool)}
theorem OpV.b2sSl {T : Tab} (hT : T.Ok P) {t t' e : TypeId} {ag : Bool} {s bb s' bb' s2 bb2 : Nat} {z z' z2 : List Value} {a u a' u' a2 u2 : Bool} {x : Operand} {v : Value} {l : List UInt8} {n : Nat}
    (ht : T.get t = some ⟨.slc 1 ag e, s, bb, z, a, u⟩) (ht' : T.get t' = some ⟨.str, s', bb', z', a', u'⟩) (he : T.get e = some ⟨.int .u8, s2, bb2, z2, a2, u2⟩)
    (hx : evO env x = some v) (hv : IsSl w 1 v n (bytesV l)) :
    OpV P env w ⟨dst, .convert t t' x, ty, pos, after, guard⟩ (.string (strOf l)) := by
  rcases hv.inv with ⟨d, rfl, rfl, he0⟩ | ⟨b, o, cap, rfl, hr, hl, -⟩
  · have hl0 : l = [] := by cases l with | nil => rfl | cons => simp [bytesV] at he0
    subst hl0
    refine .of_run fun ρ hρ => ⟨_, by simp only [execOp, hρ _ _ hx]; rfl, ?_⟩
    obtain ⟨hu, -⟩ := TD.of_slc (TI.tdof (hT.get _ _ ht)).symm
    have hu' := TD.of_str (TI.tdof (hT.get _ _ ht')).symm
    have hue := TD.of_int (TI.tdof (hT.get _ _ he)).symm
    rw [run_convert_bytes_string w t t' e d 0 0 hu hue hu']
    cases d <;> rfl
  · exact OpV.b2s hT ht ht' he hx hr (by rw [bytesV_length] at hl; omega)
end Go.Rn
namespace Go.Cod
open Go.Rn Go.Sha
inductive ArgIn (w : World) : CV → Value → Prop where
  | int {n : Int} (h : -9223372036854775808 ≤ n ∧ n < 9223372036854775808) : ArgIn w (.int n) (.iface 3 (.int .i64 n))
  | text {s : List UInt8} {v : Value} (h : IsSl w 1 v s.length (bytesV s)) (hl : s.length ≤ 1000000000) : ArgIn w (.text s) (.iface 25 v)
theorem ArgIn.ext {w w' : World} {c : CV} {a : Value} (h : ArgIn w c a) (e : Ext w w') : ArgIn w' c a := by
  cases h with
  | int h => exact .int h
  | text h hl => exact .text (h.extE e) hl
def rowOf : CV → List Value
  | .int n => [.int .i64 1, .int .i64 n, .string ⟨#[]⟩, .slice none 0 0]
  | .text s => [.int .i64 2, .int .i64 0, .string (strOf s), .slice none 0 0]
  | .list _ => []
theorem ArgIn.in_ {w w' : World} {c : CV} {a : Value} (h : ArgIn w c a) : c.In w' (rowOf c) := by
  cases h with
  | int h => exact ⟨h, _, rfl⟩
  | text h hl => exact ⟨hl, _, rfl⟩
theorem ArgIn.depth {w : World} {c : CV} {a : Value} (h : ArgIn w c a) : c.depth = 0 := by cases h <;> rfl
theorem ins_rows {w : World} : ∀ (l : List CV), (∀ c ∈ l, c.In w (rowOf c)) → Ins w l (l.map rowOf)
  | [], _ => by simp [Ins]
  | c :: l, h => by
    simp only [Ins, List.map_cons]
    exact ⟨_, _, rfl, h c List.mem_cons_self, ins_rows l fun c hc => h c (List.mem_cons_of_mem _ hc)⟩
theorem depths_zero : ∀ (l : List CV), (∀ c ∈ l, c.depth = 0) → depths l = 0
  | [], _ => rfl
  | c :: l, h => by simp only [depths]; rw [h c List.mem_cons_self, depths_zero l fun c hc => h c (List.mem_cons_of_mem _ hc)]; rfl
theorem rows_take {l : List CV} {i : Nat} {c : CV} (h : l[i]? = some c) : ((l.take (i + 1)).map rowOf).flatten = ((l.take i).map rowOf).flatten ++ rowOf c := by
  rw [List.take_add_one, h]; simp
end Go.Cod
namespace Go.Sg
open Go.Rn Go.Sha Go.Cod Go.Proofs
attribute [local irreducible] Go.Rn.RunL Go.Rn.RunE Go.Rn.Asy Go.Rn.OpV Go.Rn.OpE Go.Rn.ExecE

set_option maxRecDepth 4000 in
set_option maxHeartbeats 2000000 in
set_option maxRecDepth 4000 in
theorem list_ok (l : List CV) (v : Value) (vs : List Value) (w : World) (hv : IsSl w 1 v l.length vs) (ha : ∀ (i : Nat) (c : CV), l[i]? = some c → ∃ a, vs[i]? = some a ∧ ArgIn w c a) (hl : l.length ≤ 1000)
    (he : (CV.list l).enc.length ≤ 900000) :
    Rets Tryd.prog 49 [v] w fun r w' => w'.ownsRow w.heap.size 5 1 r (CV.list l).enc.length (bytesV (CV.list l).enc) ∧ Ext w w' := by
  refine RetsX.of (nt := 46) Tryd.func49 (by kernel_rfl) rfl rfl (by simp) (by simp only [argEnv]; rfl) ?_
  repeat (first | refine RunL.pure Tryd.tOk rfl rfl rfl ?_ | refine RunE.seq ?_ | refine RunE.region ?_ | refine RunL.nil ?_)
  refine RunL.alloc Tryd.tOk rfl rfl rfl fun B3 w1 a1 => ?_
  have hB3 := a1.eq
  have z1 := a1.size
  skip
  refine RunL.store Tryd.tOk rfl rfl rfl rfl rfl (cs := [.int .i64 0, .int .i64 0, .string ⟨#[]⟩, .slice none 0 0]) a1.at_ rfl rfl fun w2 t2 => ?_
  have Z2 : Blk w2 B3 [.int .i64 3, .int .i64 0, .string ⟨#[]⟩, .slice none 0 0] 57 := t2.at_
  have X2 : Ext w w2 := a1.ext.write t2.ext (by intro i hi hlt; subst hi; omega)
  have z2 := t2.size
  clear a1 t2
  repeat (first | refine RunL.pure Tryd.tOk rfl rfl rfl ?_ | refine RunE.seq ?_ | refine RunE.region ?_ | refine RunL.nil ?_)
  refine RunL.val rfl rfl rfl (OpV.lenSl Tryd.tOk rfl rfl hv) ?_
  repeat (first | refine RunL.pureI Tryd.tOk rfl rfl rfl (by (first | exact wr_i64 (by omega) (by omega) | exact wm_i64 (by omega) | exact wq_i64 (by omega) (by omega) (by omega) | rfl)) ?_ | refine RunL.nil ?_ | refine RunE.block ?_)
  refine RunE.loop (ι := Nat × Value) (fun x => [(3, .pointer (some ⟨B3, 0, none⟩)), (11, v), (12, .int .i64 (l.length : Int)), (13, .int .i64 (x.1 : Int))])
    (fun x w' => x.1 ≤ l.length ∧ Ext w w' ∧ Blk w' B3 [.int .i64 3, .int .i64 0, .string ⟨#[]⟩, x.2] 57 ∧ w'.ownsRow (B3 + 1) 57 4 x.2 x.1 ((l.take x.1).map rowOf).flatten) (fun x => l.length - x.1) (0, .slice none 0 0) (by repeat (first | exact Sub.nil _ | refine Sub.cons rfl ?_)) ⟨by simp, X2, Z2, World.ownsRow_nil _ _ _ _⟩ ?_
  clear X2 Z2
  rintro ⟨i, u⟩ w3 ⟨hi, X3, Z3, O3⟩ again
  simp only at hi Z3 O3 again ⊢
  have hz3 := X3.size
  have hB := Z3.lt
  repeat (first | refine RunL.pure Tryd.tOk rfl rfl rfl ?_ | refine RunE.seq ?_ | refine RunE.region ?_ | refine RunL.nil ?_)
  refine RunE.cond rfl (fun hlt => ?_) (fun hlt => ?_) <;> (first | replace hlt := of_decide_eq_true hlt | replace hlt := of_decide_eq_false hlt | replace hlt := beq_iff_eq.1 hlt | replace hlt := beq_eq_false_iff_ne.1 hlt | replace hlt := bne_iff_ne.1 hlt | replace hlt := bne_eq_false_iff_eq.1 hlt | skip)
  · have hi' : i < l.length := by omega
    obtain ⟨c, hc⟩ : ∃ c, l[i]? = some c := ⟨_, List.getElem?_eq_getElem hi'⟩
    obtain ⟨a, haa, hac⟩ := ha i c hc
    obtain ⟨b, o, cap, rfl, hrow, -, -⟩ := hv.held (by omega)
    repeat (first | refine RunE.seq ?_ | refine RunE.region ?_ | refine RunE.block ?_ | refine RunE.skip ?_)
    refine RunL.val rfl rfl rfl (OpV.indexS Tryd.tOk i rfl rfl rfl rfl hi') ?_
    refine RunL.val rfl rfl rfl (OpV.load1 (v := a) Tryd.tOk rfl rfl rfl ((hrow.extE X3) _ _ (by simpa using haa))) ?_
    cases hac with
    | @int n hn =>
      repeat (first | refine RunL.pure Tryd.tOk rfl rfl rfl ?_ | refine RunE.seq ?_ | refine RunE.region ?_ | refine RunL.nil ?_ | refine RunE.block ?_)
      refine RunL.val rfl rfl rfl (OpV.assertT (v := .int .i64 n) rfl (TD.of_int (TI.tdof (Tryd.tOk.get 3 _ rfl)).symm) rfl) ?_
      repeat (first | refine RunL.pureI Tryd.tOk rfl rfl rfl (by (first | exact wr_i64 (by omega) (by omega) | exact wm_i64 (by omega) | exact wq_i64 (by omega) (by omega) (by omega) | rfl)) ?_ | refine RunL.pure Tryd.tOk rfl rfl rfl ?_ | refine RunL.nil ?_)
      refine RunE.condT rfl rfl ?_
      repeat (first | refine RunL.pureI Tryd.tOk rfl rfl rfl (by (first | exact wr_i64 (by omega) (by omega) | exact wm_i64 (by omega) | exact wq_i64 (by omega) (by omega) (by omega) | rfl)) ?_ | refine RunL.pure Tryd.tOk rfl rfl rfl ?_ | refine RunL.val rfl rfl rfl (OpV.load1 Tryd.tOk rfl rfl rfl (Blk.cell Z3 rfl)) ?_ | refine RunE.seq ?_ | refine RunE.region ?_ | refine RunL.nil ?_)
      refine RunL.ex rfl rfl rfl (OpE.buildSl Tryd.tOk [.agg (rowOf (.int n)).toArray] rfl rfl rfl rfl rfl rfl (by simp [Value.cells, rowOf])) ?_
      rintro _ w4 ⟨B, rfl, a4⟩
      have hB4 := a4.eq
      have X4 := X3.trans a4.ext
      have Z4 := Z3.ext a4.ext id
      have O4 := ownsRow_ext O3 a4.ext (fun _ _ h => h)
      have hz4 := a4.size
      refine RunL.ex rfl rfl rfl (OpE.append' Tryd.tOk rfl rfl rfl rfl rfl rfl O4 (isSl_added (n := 1) (sz := 4) a4 rfl) rfl (by show _ * 56 ≤ _; omega) (by omega) (by omega)) ?_
      rintro v5 w5 ⟨O5, E5, -⟩
      clear a4
      have X5 : Ext w w5 := X4.write E5 (by intro k hk hlt; have := ownsRow_ge O4 hk; omega)
      have Z5 := Z4.ext E5 (by intro hk; have := ownsRow_ge O4 hk; omega)
      obtain ⟨b5, o5, cap5, rfl, -, -, -⟩ := (isSl_own O5).held (by omega)
      repeat (first | refine RunL.pure Tryd.tOk rfl rfl rfl ?_)
      refine RunL.store Tryd.tOk rfl rfl rfl rfl rfl Z5 rfl rfl fun w6 t6 => ?_
      have X6 : Ext w w6 := X5.write t6.ext (by intro k hk hlt; subst hk; omega)
      have Z6 : Blk w6 B3 [.int .i64 3, .int .i64 0, .string ⟨#[]⟩, .slice (some ⟨b5, o5, none⟩) (i + 1) cap5] 57 := t6.at_
      have O6 := ownsRow_ext O5 t6.ext (fun k hk e => by have := ownsRow_ge O5 hk; omega)
      clear t6
      repeat (first | refine RunL.pureI Tryd.tOk rfl rfl rfl (by (first | exact wr_i64 (by omega) (by omega) | exact wm_i64 (by omega) | exact wq_i64 (by omega) (by omega) (by omega) | rfl)) ?_ | refine RunE.region ?_ | refine RunL.nil ?_ | refine RunE.inBlock ?_)
      refine RunE.weaken (by repeat (first | exact Sub.nil _ | refine Sub.cons rfl ?_)) (again (i + 1, _) _ (by simp only; omega) ⟨by simp only; omega, X6, Z6, ?_⟩)
      simp only
      rw [rows_take hc]; exact O6
    | @text s sv hs hsl =>
      repeat (first | refine RunL.pure Tryd.tOk rfl rfl rfl ?_ | refine RunE.seq ?_ | refine RunE.region ?_ | refine RunL.nil ?_ | refine RunE.block ?_)
      refine RunL.val rfl rfl rfl (OpV.assertF rfl rfl (TD.of_int (TI.tdof (Tryd.tOk.get 3 _ rfl)).symm) rfl (zv := .int .i64 0) (by kernel_rfl)) ?_
      repeat (first | refine RunL.pureI Tryd.tOk rfl rfl rfl (by (first | exact wr_i64 (by omega) (by omega) | exact wm_i64 (by omega) | exact wq_i64 (by omega) (by omega) (by omega) | rfl)) ?_ | refine RunL.pure Tryd.tOk rfl rfl rfl ?_ | refine RunL.nil ?_)
      refine RunE.condF rfl rfl ?_
      repeat (first | refine RunE.seq ?_ | refine RunE.region ?_)
      refine RunL.val rfl rfl rfl (OpV.assertT (v := sv) rfl (TD.of_slc (TI.tdof (Tryd.tOk.get 25 _ rfl)).symm).1 rfl) ?_
      repeat (first | refine RunL.pure Tryd.tOk rfl rfl rfl ?_ | refine RunL.nil ?_)
      refine RunE.condT rfl rfl ?_
      repeat (first | refine RunL.pure Tryd.tOk rfl rfl rfl ?_ | refine RunL.val rfl rfl rfl (OpV.load1 Tryd.tOk rfl rfl rfl (Blk.cell Z3 rfl)) ?_ | refine RunE.seq ?_ | refine RunE.region ?_ | refine RunL.nil ?_)
      refine RunL.val rfl rfl rfl (OpV.b2sSl (l := s) Tryd.tOk rfl rfl rfl rfl (hs.extE X3)) ?_
      repeat (first | refine RunL.pure Tryd.tOk rfl rfl rfl ?_)
      refine RunL.ex rfl rfl rfl (OpE.buildSl Tryd.tOk [.agg (rowOf (.text s)).toArray] rfl rfl rfl rfl rfl rfl (by simp [Value.cells, rowOf])) ?_
      rintro _ w4 ⟨B, rfl, a4⟩
      have hB4 := a4.eq
      have X4 := X3.trans a4.ext
      have Z4 := Z3.ext a4.ext id
      have O4 := ownsRow_ext O3 a4.ext (fun _ _ h => h)
      have hz4 := a4.size
      refine RunL.ex rfl rfl rfl (OpE.append' Tryd.tOk rfl rfl rfl rfl rfl rfl O4 (isSl_added (n := 1) (sz := 4) a4 rfl) rfl (by show _ * 56 ≤ _; omega) (by omega) (by omega)) ?_
      rintro v5 w5 ⟨O5, E5, -⟩
      clear a4
      have X5 : Ext w w5 := X4.write E5 (by intro k hk hlt; have := ownsRow_ge O4 hk; omega)
      have Z5 := Z4.ext E5 (by intro hk; have := ownsRow_ge O4 hk; omega)
      obtain ⟨b5, o5, cap5, rfl, -, -, -⟩ := (isSl_own O5).held (by omega)
      repeat (first | refine RunL.pure Tryd.tOk rfl rfl rfl ?_)
      refine RunL.store Tryd.tOk rfl rfl rfl rfl rfl Z5 rfl rfl fun w6 t6 => ?_
      have X6 : Ext w w6 := X5.write t6.ext (by intro k hk hlt; subst hk; omega)
      have Z6 : Blk w6 B3 [.int .i64 3, .int .i64 0, .string ⟨#[]⟩, .slice (some ⟨b5, o5, none⟩) (i + 1) cap5] 57 := t6.at_
      have O6 := ownsRow_ext O5 t6.ext (fun k hk e => by have := ownsRow_ge O5 hk; omega)
      clear t6
      repeat (first | refine RunL.pureI Tryd.tOk rfl rfl rfl (by (first | exact wr_i64 (by omega) (by omega) | exact wm_i64 (by omega) | exact wq_i64 (by omega) (by omega) (by omega) | rfl)) ?_ | refine RunE.region ?_ | refine RunL.nil ?_ | refine RunE.inBlock ?_)
      refine RunE.weaken (by repeat (first | exact Sub.nil _ | refine Sub.cons rfl ?_)) (again (i + 1, _) _ (by simp only; omega) ⟨by simp only; omega, X6, Z6, ?_⟩)
      simp only
      rw [rows_take hc]; exact O6
  · have hil : i = l.length := by omega
    subst hil
    rw [List.take_length] at O3
    repeat (first | refine RunE.seq ?_ | refine RunE.region ?_ | refine RunE.exit rfl ?_)
    have hd : (CV.list l).depth ≤ 16 := by
      simp only [CV.depth]
      rw [depths_zero l fun c hc => ?_]
      · omega
      · obtain ⟨i, hi⟩ := List.getElem?_of_mem hc
        obtain ⟨a, -, h⟩ := ha i c hi
        exact h.depth
    have hin : (CV.list l).In w3 [.int .i64 3, .int .i64 0, .string ⟨#[]⟩, u] := by
      simp only [CV.In]
      refine ⟨by omega, u, _, rfl, isSl_own O3, ins_rows l fun c hc => ?_⟩
      obtain ⟨i, hi⟩ := List.getElem?_of_mem hc
      obtain ⟨a, -, h⟩ := ha i c hi
      exact h.in_
    refine RunL.val rfl rfl rfl (OpV.loadN (cs := [.int .i64 3, .int .i64 0, .string ⟨#[]⟩, u]) Tryd.tOk rfl rfl rfl rfl Z3.row) ?_
    refine RunL.call rfl rfl rfl (encode_ok (.list l) _ w3 hin hd (by omega)) ?_
    rintro _ w4 ⟨r, rfl, O4, X4⟩
    repeat (first | refine RunL.pureI Tryd.tOk rfl rfl rfl (by (first | exact wr_i64 (by omega) (by omega) | exact wm_i64 (by omega) | exact wq_i64 (by omega) (by omega) (by omega) | rfl)) ?_ | refine RunL.pure Tryd.tOk rfl rfl rfl ?_ | refine RunE.seq ?_ | refine RunE.region ?_ | refine RunL.nil ?_)
    exact RunE.retFn Tryd.func49 (.tmp rfl .nil) ⟨ownsRow_base O4 hz3, X3.trans X4⟩
end Go.Sg
end
section
/- sign: Sign and Verify. -/
namespace Go.Cod
open Go.Rn Go.Sha
theorem args2 {w : World} {c0 c1 : CV} {a0 a1 : Value} (h0 : ArgIn w c0 a0) (h1 : ArgIn w c1 a1) : ∀ (i : Nat) (c : CV), [c0, c1][i]? = some c → ∃ a, [a0, a1][i]? = some a ∧ ArgIn w c a
  | 0, c, h => by simp at h; subst h; exact ⟨_, rfl, h0⟩
  | 1, c, h => by simp at h; subst h; exact ⟨_, rfl, h1⟩
  | i + 2, c, h => by simp at h
theorem args3 {w : World} {c0 c1 c2 : CV} {a0 a1 a2 : Value} (h0 : ArgIn w c0 a0) (h1 : ArgIn w c1 a1) (h2 : ArgIn w c2 a2) : ∀ (i : Nat) (c : CV), [c0, c1, c2][i]? = some c → ∃ a, [a0, a1, a2][i]? = some a ∧ ArgIn w c a
  | 0, c, h => by simp at h; subst h; exact ⟨_, rfl, h0⟩
  | 1, c, h => by simp at h; subst h; exact ⟨_, rfl, h1⟩
  | 2, c, h => by simp at h; subst h; exact ⟨_, rfl, h2⟩
  | i + 3, c, h => by simp at h
theorem enc2_le (x : Int) (b : List UInt8) (hx : -9223372036854775808 ≤ x ∧ x < 9223372036854775808) (hb : b.length ≤ 800000) : (CV.list [.int x, .text b]).enc.length ≤ 900000 := by
  have h1 := num_le _ (zig_lt x hx)
  have h2 := num_le b.length (by omega)
  have h3 := num_le [CV.int x, CV.text b].length (by simp)
  simp only [CV.enc, encs, List.length_cons, List.length_append, List.length_nil] at h3 ⊢
  omega
theorem enc3_le (x y : Int) (b : List UInt8) (hx : -9223372036854775808 ≤ x ∧ x < 9223372036854775808) (hy : -9223372036854775808 ≤ y ∧ y < 9223372036854775808) (hb : b.length ≤ 800000) : (CV.list [.int x, .int y, .text b]).enc.length ≤ 900000 := by
  have h1 := num_le _ (zig_lt x hx)
  have h1' := num_le _ (zig_lt y hy)
  have h2 := num_le b.length (by omega)
  have h3 := num_le [CV.int x, CV.int y, CV.text b].length (by simp)
  simp only [CV.enc, encs, List.length_cons, List.length_append, List.length_nil] at h3 ⊢
  omega
end Go.Cod
namespace Go.Sg
open Go.Rn Go.NT Go.Sha Go.Cod Go.Proofs
attribute [local irreducible] Go.Rn.RunL Go.Rn.RunE Go.Rn.Asy Go.Rn.OpV Go.Rn.OpE Go.Rn.ExecE

theorem hashS_bd (t l : List UInt8) : 0 ≤ hashS t l ∧ hashS t l < 1073741789 := by
  unfold hashS; exact ⟨Int.natCast_nonneg _, by omega⟩
theorem mulC_bd (a b : Int) : 0 ≤ mulC a b ∧ mulC a b < 2147483579 := by
  unfold mulC; split
  · exact ⟨Int.emod_nonneg _ (by decide), Int.emod_lt_of_pos _ (by decide)⟩
  · decide
theorem validS_bd {x : Int} (h : validS x = true) : 1 ≤ x ∧ x < 2147483579 := by
  have := of_decide_eq_true h; exact ⟨this.1, this.2.1⟩

def nonceB : List UInt8 := [110, 111, 110, 99, 101]
def signB : List UInt8 := [115, 105, 103, 110]
def noncH (x : Int) (b : List UInt8) : Int := hashS nonceB (CV.list [.int x, .text b]).enc
def noncN (x : Int) (b : List UInt8) : Int := if (1 : Int) > noncH x b then 1 else noncH x b
def chal (R key : Int) (b : List UInt8) : Int := hashS signB (CV.list [.int R, .int key, .text b]).enc
def inQ (x : Int) : Bool := decide (1 ≤ x ∧ x < 1073741789)
def sigE (x : Int) (b : List UInt8) : Int := if inQ x then chal (powC 4 (noncN x b)) (powC 4 x) b else 0
def sigS (x : Int) (b : List UInt8) : Int := if inQ x then (noncN x b + sigE x b * x % 1073741789) % 1073741789 else 0
def sigR (x : Int) : Int := if inQ x then 0 else 110
def sigOk (key E S : Int) : Bool := decide (0 ≤ E ∧ E < 1073741789 ∧ 0 ≤ S ∧ S < 1073741789) && validS key
def verS (key : Int) (b : List UInt8) (E S : Int) : Bool := sigOk key E S && (E == chal (mulC (powC 4 S) (powC key (-E))) key b)
theorem noncN_bd (x : Int) (b : List UInt8) : 1 ≤ noncN x b ∧ noncN x b < 1073741789 := by
  have := hashS_bd nonceB (CV.list [.int x, .text b]).enc
  unfold noncN noncH; split <;> omega

set_option maxRecDepth 4000 in
theorem power_ok (a n : Int) (w : World) : Rets Tryd.prog 47 [.int .i64 a, .int .i64 n] w fun v w' => v = .int .i64 (powC a n) ∧ Ext w w' := by
  refine RetsX.of (nt := 14) Tryd.func47 (by kernel_rfl) rfl rfl (by simp) (by simp only [argEnv]; rfl) ?_
  repeat (first | refine RunL.pureI Tryd.tOk rfl rfl rfl (by (first | exact wr_i64 (by omega) (by omega) | exact wm_i64 (by omega) | exact wq_i64 (by omega) (by omega) (by omega) | rfl)) ?_ | refine RunE.seq ?_ | refine RunE.region ?_ | refine RunL.nil ?_)
  refine RunL.call rfl rfl rfl (pow_ok a n _) ?_
  rintro _ w1 ⟨rfl, X1⟩
  repeat (first | refine RunL.pureI Tryd.tOk rfl rfl rfl (by (first | exact wr_i64 (by omega) (by omega) | exact wm_i64 (by omega) | exact wq_i64 (by omega) (by omega) (by omega) | rfl)) ?_ | refine RunL.pure Tryd.tOk rfl rfl rfl ?_ | refine RunE.seq ?_ | refine RunE.region ?_ | refine RunL.nil ?_)
  exact RunE.retFn Tryd.func47 (.tmp rfl .nil) ⟨rfl, X1⟩
set_option maxRecDepth 4000 in
theorem plus_ok (a n : Int) (w : World) (h : 0 ≤ a ∧ a < 1073741789) (h' : 0 ≤ n ∧ n < 1073741789) : Rets Tryd.prog 59 [.int .i64 a, .int .i64 n] w fun v w' => v = .int .i64 ((a + n) % 1073741789) ∧ w' = w := by
  refine RetsX.of (nt := 9) Tryd.func59 (by kernel_rfl) rfl rfl (by simp) (by simp only [argEnv]; rfl) ?_
  repeat (first | refine RunL.pureI Tryd.tOk rfl rfl rfl (by (first | exact wr_i64 (by omega) (by omega) | exact wm_i64 (by omega) | exact wq_i64 (by omega) (by omega) (by omega) | rfl)) ?_ | refine RunE.seq ?_ | refine RunE.region ?_ | refine RunL.nil ?_)
  exact RunE.retFn Tryd.func59 (.tmp rfl .nil) ⟨rfl, rfl⟩
theorem mul_bd30 {i k : Int} (hi : 0 ≤ i ∧ i < 1073741824) (hk : 0 ≤ k ∧ k < 1073741824) : 0 ≤ i * k ∧ i * k ≤ 1152921504606846976 := by
  refine ⟨Int.mul_nonneg hi.1 hk.1, ?_⟩
  have := Int.mul_le_mul (show i ≤ 1073741824 by omega) (show k ≤ 1073741824 by omega) hk.1 (by decide)
  omega
set_option maxRecDepth 4000 in
theorem times_ok (a n : Int) (w : World) (h : 0 ≤ a ∧ a < 1073741789) (h' : 0 ≤ n ∧ n < 1073741789) : Rets Tryd.prog 60 [.int .i64 a, .int .i64 n] w fun v w' => v = .int .i64 (a * n % 1073741789) ∧ w' = w := by
  have hm := mul_bd30 (i := a) (k := n) (by omega) (by omega)
  refine RetsX.of (nt := 9) Tryd.func60 (by kernel_rfl) rfl rfl (by simp) (by simp only [argEnv]; rfl) ?_
  repeat (first | refine RunL.pureI Tryd.tOk rfl rfl rfl (by (first | exact wr_i64 (by omega) (by omega) | exact wm_i64 (by omega) | exact wq_i64 (by omega) (by omega) (by omega) | rfl)) ?_ | refine RunE.seq ?_ | refine RunE.region ?_ | refine RunL.nil ?_)
  exact RunE.retFn Tryd.func60 (.tmp rfl .nil) ⟨rfl, rfl⟩

theorem vals_ext {S : Nat → Prop} {w w' : World} {g : Nat} {cs : List Value} (h : Row w g 0 cs) (e : ExtB S w w') (hn : ¬ S g) : Row w' g 0 cs := h.ext e hn

set_option maxRecDepth 4000 in
set_option maxHeartbeats 2000000 in
set_option maxRecDepth 4000 in
theorem sign_ok (x : Int) (v : Value) (b : List UInt8) (w : World) (hx : -9223372036854775808 ≤ x ∧ x < 9223372036854775808) (hv : IsSl w 1 v b.length (bytesV b)) (hb : b.length ≤ 800000) (hS : Row w 0 0 (vals init8.l)) (hkT : Row w 1 0 (vals kTab)) :
    Rets Tryd.prog 30 [.int .i64 x, v] w fun r w' => r = .tuple #[.agg #[.int .i64 (sigE x b), .int .i64 (sigS x b)], .int .i64 (sigR x)] ∧ Ext w w' := by
  refine RetsX.of (nt := 45) Tryd.func30 (by kernel_rfl) rfl rfl (by simp) (by simp only [argEnv]; rfl) ?_
  repeat (first | refine RunE.seq ?_ | refine RunE.region ?_)
  refine RunL.alloc Tryd.tOk rfl rfl rfl fun B4 w1 a1 => ?_
  have Z1 : Blk w1 B4 [.int .i64 0, .int .i64 0] 27 := a1.at_
  have hB4 := a1.eq
  have X1 := a1.ext
  have z1 := a1.size
  clear a1
  cases hq : inQ x with
  | false =>
    have hq' : ¬ (1 ≤ x ∧ x < 1073741789) := of_decide_eq_false hq
    by_cases h1 : x < 1
    · repeat (first | refine RunL.pureB Tryd.tOk _ rfl rfl rfl (by exact decide_eq_true h1) ?_ | refine RunL.pureI Tryd.tOk rfl rfl rfl (by (first | exact wr_i64 (by omega) (by omega) | exact wm_i64 (by omega) | exact wq_i64 (by omega) (by omega) (by omega) | rfl)) ?_ | refine RunL.pure Tryd.tOk rfl rfl rfl ?_ | refine RunL.unwantedD rfl rfl ?_ | refine RunE.seq ?_ | refine RunE.region ?_ | refine RunL.nil ?_)
      refine RunE.condT rfl rfl ?_
      repeat (first | refine RunE.seq ?_ | refine RunE.region ?_)
      refine RunL.val rfl rfl rfl (OpV.loadN (cs := [.int .i64 0, .int .i64 0]) Tryd.tOk rfl rfl rfl rfl Z1.row) ?_
      refine RunL.store Tryd.tOk rfl rfl rfl rfl rfl Z1 rfl rfl fun w3 t3 => ?_
      repeat (first | refine RunL.pureI Tryd.tOk rfl rfl rfl (by (first | exact wr_i64 (by omega) (by omega) | exact wm_i64 (by omega) | exact wq_i64 (by omega) (by omega) (by omega) | rfl)) ?_ | refine RunL.nil ?_)
      refine RunE.retFn Tryd.func30 (.cell rfl (.agg Tryd.tOk rfl rfl rfl (Blk.row (show Blk w3 B4 [.int .i64 0, .int .i64 0] 27 from t3.at_))) (.tmp rfl .nil)) ⟨?_, X1.write t3.ext (by intro i hi hlt; subst hi; omega)⟩
      simp [oneOr, sigE, sigS, sigR, hq]
    · repeat (first | refine RunL.pureB Tryd.tOk _ rfl rfl rfl (by exact decide_eq_false h1) ?_ | refine RunL.pureB Tryd.tOk _ rfl rfl rfl (by exact decide_eq_true (by omega)) ?_ | refine RunL.pureI Tryd.tOk rfl rfl rfl (by (first | exact wr_i64 (by omega) (by omega) | exact wm_i64 (by omega) | exact wq_i64 (by omega) (by omega) (by omega) | rfl)) ?_ | refine RunL.pure Tryd.tOk rfl rfl rfl ?_ | refine RunE.seq ?_ | refine RunE.region ?_ | refine RunL.nil ?_)
      refine RunE.condT rfl rfl ?_
      repeat (first | refine RunE.seq ?_ | refine RunE.region ?_)
      refine RunL.val rfl rfl rfl (OpV.loadN (cs := [.int .i64 0, .int .i64 0]) Tryd.tOk rfl rfl rfl rfl Z1.row) ?_
      refine RunL.store Tryd.tOk rfl rfl rfl rfl rfl Z1 rfl rfl fun w3 t3 => ?_
      repeat (first | refine RunL.pureI Tryd.tOk rfl rfl rfl (by (first | exact wr_i64 (by omega) (by omega) | exact wm_i64 (by omega) | exact wq_i64 (by omega) (by omega) (by omega) | rfl)) ?_ | refine RunL.nil ?_)
      refine RunE.retFn Tryd.func30 (.cell rfl (.agg Tryd.tOk rfl rfl rfl (Blk.row (show Blk w3 B4 [.int .i64 0, .int .i64 0] 27 from t3.at_))) (.tmp rfl .nil)) ⟨?_, X1.write t3.ext (by intro i hi hlt; subst hi; omega)⟩
      simp [oneOr, sigE, sigS, sigR, hq]
  | true =>
    have hq' : 1 ≤ x ∧ x < 1073741789 := of_decide_eq_true hq
    repeat (first | refine RunL.pureB Tryd.tOk _ rfl rfl rfl (by exact decide_eq_false (by omega)) ?_ | refine RunL.pureI Tryd.tOk rfl rfl rfl (by (first | exact wr_i64 (by omega) (by omega) | exact wm_i64 (by omega) | exact wq_i64 (by omega) (by omega) (by omega) | rfl)) ?_ | refine RunL.pure Tryd.tOk rfl rfl rfl ?_ | refine RunE.seq ?_ | refine RunE.region ?_ | refine RunL.nil ?_)
    refine RunE.condF rfl rfl ?_
    repeat (first | refine RunL.pureI Tryd.tOk rfl rfl rfl (by (first | exact wr_i64 (by omega) (by omega) | exact wm_i64 (by omega) | exact wq_i64 (by omega) (by omega) (by omega) | rfl)) ?_ | refine RunL.pure Tryd.tOk rfl rfl rfl ?_ | refine RunE.seq ?_ | refine RunE.region ?_ | refine RunE.skip ?_)
    refine RunL.ex rfl rfl rfl (OpE.buildSl Tryd.tOk [.iface 3 (.int .i64 x), .iface 25 v] rfl rfl rfl rfl rfl rfl (by simp [Value.cells])) ?_
    rintro _ w2 ⟨B, rfl, a2⟩
    have X2 := X1.trans a2.ext
    refine RunL.call rfl rfl rfl (list_ok [.int x, .text b] _ _ w2 (isSl_added (n := 2) (sz := 1) a2 rfl) (args2 (.int hx) (.text (hv.extE X2) (by omega))) (by simp) (enc2_le x b hx hb)) ?_
    rintro r3 w3 ⟨O3, X3⟩
    have Y3 := X2.trans X3
    refine RunL.call rfl rfl rfl (hash_ok ⟨#[110, 111, 110, 99, 101]⟩ r3 _ w3 (by decide) (isSl_own O3) (enc2_le x b hx hb) (hS.extE Y3) (hkT.extE Y3)) ?_
    rintro _ w4 ⟨rfl, X4⟩
    have Y4 := Y3.trans X4
    have Z4 := ((Z1.ext a2.ext id).ext X3 id).ext X4 id
    clear a2 O3
    have hkb := noncN_bd x b
    have hc := hashS_bd signB (CV.list [.int (powC 4 (noncN x b)), .int (powC 4 x), .text b]).enc
    have hp1 := powC_bd 4 (noncN x b)
    have hp2 := powC_bd 4 x
    refine RunL.pureI (m' := noncN x b) Tryd.tOk rfl rfl rfl (by rfl) ?_
    generalize hk : noncN x b = kx at *
    repeat (first | refine RunL.pureI Tryd.tOk rfl rfl rfl (by (first | exact wr_i64 (by omega) (by omega) | exact wm_i64 (by omega) | exact wq_i64 (by omega) (by omega) (by omega) | rfl)) ?_ | refine RunE.seq ?_ | refine RunE.region ?_ | refine RunL.nil ?_)
    refine RunL.call rfl rfl rfl (power_ok 4 kx _) ?_
    rintro _ w5 ⟨rfl, X5⟩
    repeat (first | refine RunL.pureI Tryd.tOk rfl rfl rfl (by (first | exact wr_i64 (by omega) (by omega) | exact wm_i64 (by omega) | exact wq_i64 (by omega) (by omega) (by omega) | rfl)) ?_ | refine RunL.pure Tryd.tOk rfl rfl rfl ?_)
    refine RunL.call rfl rfl rfl (power_ok 4 x _) ?_
    rintro _ w6 ⟨rfl, X6⟩
    have Y6 := (Y4.trans X5).trans X6
    repeat (first | refine RunL.pure Tryd.tOk rfl rfl rfl ?_)
    refine RunL.ex rfl rfl rfl (OpE.buildSl Tryd.tOk [.iface 3 (.int .i64 (powC 4 kx)), .iface 3 (.int .i64 (powC 4 x)), .iface 25 v] rfl rfl rfl rfl rfl rfl (by simp [Value.cells])) ?_
    rintro _ w7 ⟨B', rfl, a7⟩
    have Y7 := Y6.trans a7.ext
    refine RunL.call rfl rfl rfl (list_ok [.int (powC 4 kx), .int (powC 4 x), .text b] _ _ w7 (isSl_added (n := 3) (sz := 1) a7 rfl) (args3 (.int (by omega)) (.int (by omega)) (.text (hv.extE Y7) (by omega))) (by simp) (enc3_le _ _ b (by omega) (by omega) hb)) ?_
    rintro r8 w8 ⟨O8, X8⟩
    have Y8 := Y7.trans X8
    refine RunL.call rfl rfl rfl (hash_ok ⟨#[115, 105, 103, 110]⟩ r8 _ w8 (by decide) (isSl_own O8) (enc3_le _ _ b (by omega) (by omega) hb) (hS.extE Y8) (hkT.extE Y8)) ?_
    rintro _ w9 ⟨rfl, X9⟩
    have Y9 := Y8.trans X9
    have Z9 := ((((Z4.ext X5 id).ext X6 id).ext a7.ext id).ext X8 id).ext X9 id
    clear a7 O8
    have hE : sigE x b = hashS signB (CV.list [.int (powC 4 kx), .int (powC 4 x), .text b]).enc := by
      unfold sigE chal; rw [hq, if_pos rfl, hk]
    change 0 ≤ hashS [115, 105, 103, 110] (CV.list [.int (powC 4 kx), .int (powC 4 x), .text b]).enc ∧ hashS [115, 105, 103, 110] (CV.list [.int (powC 4 kx), .int (powC 4 x), .text b]).enc < 1073741789 at hc
    have hE' : hashS [115, 105, 103, 110] (CV.list [.int (powC 4 kx), .int (powC 4 x), .text b]).enc = sigE x b := hE.symm
    rw [hE'] at hc
    show RunL _ _ _ _ _ _ _ _ ((33, .int .i64 (hashS [115, 105, 103, 110] (CV.list [.int (powC 4 kx), .int (powC 4 x), .text b]).enc)) :: _) _
    rw [hE']
    generalize hEg : sigE x b = E at *
    have hm := mul_bd30 (i := E) (k := x) (by omega) (by omega)
    have hm2 : 0 ≤ E * x % 1073741789 ∧ E * x % 1073741789 < 1073741789 := ⟨Int.emod_nonneg _ (by decide), Int.emod_lt_of_pos _ (by decide)⟩
    repeat (first | refine RunL.pure Tryd.tOk rfl rfl rfl ?_)
    refine RunL.store Tryd.tOk rfl rfl rfl rfl rfl Z9 rfl rfl fun wa ta => ?_
    have Za : Blk wa B4 [.int .i64 E, .int .i64 0] 27 := ta.at_
    have Ya := Y9.write ta.ext (S := fun _ => False) (by intro i hi hlt; subst hi; omega)
    clear ta
    repeat (first | refine RunL.pureI Tryd.tOk rfl rfl rfl (by (first | exact wr_i64 (by omega) (by omega) | exact wm_i64 (by omega) | exact wq_i64 (by omega) (by omega) (by omega) | rfl)) ?_ | refine RunL.pure Tryd.tOk rfl rfl rfl ?_ | refine RunL.val rfl rfl rfl (OpV.load1 Tryd.tOk rfl rfl rfl (Blk.cell Za rfl)) ?_ | refine RunE.seq ?_ | refine RunE.region ?_ | refine RunL.nil ?_)
    refine RunL.call rfl rfl rfl (times_ok E x _ hc (by omega)) ?_
    rintro _ _ ⟨rfl, rfl⟩
    refine RunL.callV (fv := .func (.func 59) #[.int .i64 kx] #[]) rfl rfl rfl rfl (Rets.v (fi := [.int .i64 kx]) (all := [.int .i64 kx, .int .i64 (E * x % 1073741789)]) (plus_ok kx _ _ (by omega) hm2) rfl) (fun _ _ _ h => h.elim) ?_
    rintro _ _ ⟨rfl, rfl⟩
    repeat (first | refine RunL.pure Tryd.tOk rfl rfl rfl ?_)
    refine RunL.store Tryd.tOk rfl rfl rfl rfl rfl Za rfl rfl fun wb tb => ?_
    have Zb : Blk wb B4 [.int .i64 E, .int .i64 ((kx + E * x % 1073741789) % 1073741789)] 27 := tb.at_
    have Yb := Ya.write tb.ext (S := fun _ => False) (by intro i hi hlt; subst hi; omega)
    clear tb
    repeat (first | refine RunE.seq ?_ | refine RunE.region ?_ | refine RunL.nil ?_)
    refine RunL.val rfl rfl rfl (OpV.loadN (cs := [.int .i64 E, .int .i64 ((kx + E * x % 1073741789) % 1073741789)]) Tryd.tOk rfl rfl rfl rfl Zb.row) ?_
    refine RunL.store Tryd.tOk rfl rfl rfl rfl rfl Zb rfl rfl fun wc tc => ?_
    repeat (first | refine RunL.pureI Tryd.tOk rfl rfl rfl (by (first | exact wr_i64 (by omega) (by omega) | exact wm_i64 (by omega) | exact wq_i64 (by omega) (by omega) (by omega) | rfl)) ?_ | refine RunL.nil ?_)
    refine RunE.retFn Tryd.func30 (.cell rfl (.agg Tryd.tOk rfl rfl rfl (Blk.row (show Blk wc B4 [.int .i64 E, .int .i64 ((kx + E * x % 1073741789) % 1073741789)] 27 from tc.at_))) (.tmp rfl .nil)) ⟨?_, Yb.write tc.ext (by intro i hi hlt; subst hi; omega)⟩
    have hSg : sigS x b = (kx + E * x % 1073741789) % 1073741789 := by unfold sigS; rw [hq, if_pos rfl, hk, hEg]
    simp [oneOr, hSg, sigR, hq]
end Go.Sg
end
section
/- Deeds (chapter 49): plain. -/
namespace Go.Cod
open Go.Sha
theorem num_pre : ∀ (u u' : Nat) (r r' : List UInt8), num u ++ r = num u' ++ r' → u = u' ∧ r = r' := by
  intro u
  induction u using Nat.strongRecOn with
  | ind u ih =>
    intro u' r r' h
    by_cases h1 : u < 128
    · by_cases h2 : u' < 128
      · rw [num_small h1, num_small h2] at h
        simp only [List.cons_append, List.nil_append, List.cons.injEq] at h
        have := congrArg UInt8.toNat h.1
        simp at this
        exact ⟨by omega, h.2⟩
      · rw [num_small h1, num_big h2] at h
        simp only [List.cons_append, List.nil_append, List.cons.injEq] at h
        have := congrArg UInt8.toNat h.1
        simp at this
        omega
    · by_cases h2 : u' < 128
      · rw [num_big h1, num_small h2] at h
        simp only [List.cons_append, List.nil_append, List.cons.injEq] at h
        have := congrArg UInt8.toNat h.1
        simp at this
        omega
      · rw [num_big h1, num_big h2] at h
        simp only [List.cons_append, List.cons.injEq] at h
        have h3 := congrArg UInt8.toNat h.1
        simp at h3
        obtain ⟨h4, h5⟩ := ih (u / 128) (by omega) _ _ _ h.2
        exact ⟨by omega, h5⟩
theorem zig_inj {a b : Int} (h : zig a = zig b) : a = b := by
  unfold zig at h
  split at h <;> split at h <;> omega
theorem append_pre {α : Type} {a b r r' : List α} (hl : a.length = b.length) (h : a ++ r = b ++ r') : a = b ∧ r = r' := List.append_inj h hl
mutual
theorem enc_pre : ∀ (c c' : CV) (r r' : List UInt8), c.enc ++ r = c'.enc ++ r' → c = c' ∧ r = r'
  | .int n, c', r, r', h => by
    cases c' with
    | int m =>
      simp only [CV.enc, List.cons_append, List.cons.injEq, true_and] at h
      obtain ⟨h1, h2⟩ := num_pre _ _ _ _ h
      exact ⟨by rw [zig_inj h1], h2⟩
    | text t => simp [CV.enc] at h
    | list l => simp [CV.enc] at h
  | .text s, c', r, r', h => by
    cases c' with
    | int m => simp [CV.enc] at h
    | text t =>
      simp only [CV.enc, List.cons_append, List.cons.injEq, true_and, List.append_assoc] at h
      obtain ⟨h1, h2⟩ := num_pre _ _ _ _ h
      obtain ⟨h3, h4⟩ := append_pre h1 h2
      exact ⟨by rw [h3], h4⟩
    | list l => simp [CV.enc] at h
  | .list l, c', r, r', h => by
    cases c' with
    | int m => simp [CV.enc] at h
    | text t => simp [CV.enc] at h
    | list l' =>
      simp only [CV.enc, List.cons_append, List.cons.injEq, true_and, List.append_assoc] at h
      obtain ⟨h1, h2⟩ := num_pre _ _ _ _ h
      obtain ⟨h3, h4⟩ := encs_pre l l' _ _ h1 h2
      exact ⟨by rw [h3], h4⟩
theorem encs_pre : ∀ (l l' : List CV) (r r' : List UInt8), l.length = l'.length → encs l ++ r = encs l' ++ r' → l = l' ∧ r = r'
  | [], l', r, r', hl, h => by
    cases l' with
    | nil => exact ⟨rfl, by simpa [encs] using h⟩
    | cons c l => simp at hl
  | c :: l, l', r, r', hl, h => by
    cases l' with
    | nil => simp at hl
    | cons c' l' =>
      simp only [encs, List.append_assoc] at h
      obtain ⟨h1, h2⟩ := enc_pre c c' _ _ h
      obtain ⟨h3, h4⟩ := encs_pre l l' _ _ (by simpa using hl) h2
      exact ⟨by rw [h1, h3], h4⟩
end
theorem enc_inj {c c' : CV} (h : c.enc = c'.enc) : c = c' := (enc_pre c c' [] [] (by rw [h])).1
end Go.Cod
namespace Go.Dee
open Go.NT Go.Sg Go.Sha Go.Cod
abbrev Dg := {l : List UInt8 // l.length = 32}
def zeroG : Dg := ⟨List.replicate 32 0, rfl⟩
instance : Inhabited Dg := ⟨zeroG⟩
structure Deed where
  person : Int
  no : Int
  at_ : Int
  prev : Dg
  seen : List Dg
  data : List UInt8
  e : Int
  s : Int
deriving DecidableEq, Inhabited
def zeroD : Deed := ⟨0, 0, 0, zeroG, [], [], 0, 0⟩
def lessL : List UInt8 → List UInt8 → Bool
  | a :: r, b :: t => if a = b then lessL r t else decide (a.toNat < b.toNat)
  | _, _ => false
def lessG (a b : Dg) : Bool := lessL a.1 b.1
def incG : List Dg → Bool
  | a :: b :: r => lessG a b && incG (b :: r)
  | _ => true
def i64 (x : Int) : Prop := -9223372036854775808 ≤ x ∧ x < 9223372036854775808
structure WfD (d : Deed) : Prop where
  person : i64 d.person
  no : i64 d.no
  at_ : i64 d.at_
  e : i64 d.e
  s : i64 d.s
def cvD (d : Deed) : CV := .list [.int d.person, .int d.no, .int d.at_, .text d.prev.1, .list (d.seen.map fun x => .text x.1), .text d.data]
def textD (d : Deed) : List UInt8 := (cvD d).enc
def deedB : List UInt8 := [100, 101, 101, 100]
def idD (d : Deed) : Dg := ⟨tagged deedB (textD d), tagged_length _ _⟩
def numsD (d : Deed) : Bool := decide (0 ≤ d.person ∧ d.person < 64 ∧ 0 ≤ d.no ∧ d.no < 4096 ∧ 0 ≤ d.at_ ∧ d.at_ < 1099511627776 ∧ d.seen.length ≤ 64 ∧ d.data.length ≤ 65536)
def firstD (d : Deed) : Bool := decide (0 < d.no) || (d.prev == zeroG)
def formedD (d : Deed) : Bool := numsD d && incG d.seen && firstD d
def idE (d : Deed) : Int := if formedD d then 0 else 490
def idG (d : Deed) : Dg := if formedD d then idD d else zeroG
def makeE (x : Int) (d : Deed) : Int := if inQ x then (if formedD d then 0 else 490) else 110
def makeD (x : Int) (d : Deed) : Deed := if makeE x d = 0 then { d with e := sigE x (textD d), s := sigS x (textD d) } else zeroD
def keysD (ks : List Int) : Bool := ks.all (fun k => k == 0 || validS k) && decide (ks.length ≤ 64)
def keyOf (ks : List Int) (p : Int) : Int := ks.getD p.toNat 0
def fineD (ks : List Int) (d : Deed) : Bool := formedD d && decide (d.person < (ks.length : Int)) && (keyOf ks d.person != 0) && verS (keyOf ks d.person) (textD d) d.e d.s
def rightE (ks : List Int) : Int := if keysD ks then 0 else 1
def rightB (ks : List Int) (d : Deed) : Bool := keysD ks && fineD ks d
def befD (a b : Deed) : Bool := if a.at_ = b.at_ then (if a.person = b.person then decide (a.no < b.no) else decide (a.person < b.person)) else decide (a.at_ < b.at_)
def ofD (pre : List Deed) (p : Int) : List Deed := pre.filter fun y => decide (y.person = p)
def nextD (pre : List Deed) (p : Int) : Int := ((ofD pre p).length : Int)
def lastD (pre : List Deed) (p : Int) : Dg := match (ofD pre p).getLast? with | some x => idD x | none => zeroG
def metD (pre : List Deed) (p : Int) (x : Dg) : Bool := pre.any fun y => decide (y.person ≠ p) && (idD y == x)
def afterD (pre : List Deed) (d : Deed) : Bool := match pre.getLast? with | some x => befD x d | none => true
def stepD (ks : List Int) (pre : List Deed) (d : Deed) : Bool := fineD ks d && (d.no == nextD pre d.person) && (d.prev == lastD pre d.person) && afterD pre d && d.seen.all (metD pre d.person)
def logD (ks : List Int) (l : List Deed) : Bool := (List.range l.length).all fun i => stepD ks (l.take i) (l.getD i zeroD)
def chkE (ks : List Int) (l : List Deed) : Int := if keysD ks then (if l.length > 4096 then 2 else if logD ks l then 0 else 490) else 1
theorem logD_iff {ks : List Int} {l : List Deed} : logD ks l = true ↔ ∀ (i : Nat) (d : Deed), l[i]? = some d → stepD ks (l.take i) d = true := by
  unfold logD
  rw [List.all_eq_true]
  constructor
  · intro h i d hd
    have hi := (List.getElem?_eq_some_iff.1 hd).1
    have := h i (List.mem_range.2 hi)
    rwa [List.getD_eq_getElem?_getD, hd] at this
  · intro h i hi
    rw [List.mem_range] at hi
    have hd := List.getElem?_eq_getElem hi
    have := h i _ hd
    rwa [List.getD_eq_getElem?_getD, hd]
theorem logD_no {ks : List Int} {l : List Deed} {i : Nat} {d : Deed} (hd : l[i]? = some d) (h : stepD ks (l.take i) d = false) : logD ks l = false := by
  cases e : logD ks l with
  | false => rfl
  | true => have := logD_iff.1 e i d hd; rw [h] at this; cases this
theorem logD_take {ks : List Int} {l : List Deed} (h : logD ks l = true) (n : Nat) : logD ks (l.take n) = true := by
  refine logD_iff.2 fun i d hd => ?_
  have hi : i < n := by
    have := (List.getElem?_eq_some_iff.1 hd).1
    rw [List.length_take] at this; omega
  rw [List.getElem?_take_of_lt hi] at hd
  rw [List.take_take, Nat.min_eq_left (by omega)]
  exact logD_iff.1 h i d hd
theorem logD_snoc {ks : List Int} {l : List Deed} {d : Deed} (h : logD ks l = true) (hd : stepD ks l d = true) : logD ks (l ++ [d]) = true := by
  refine logD_iff.2 fun i x hx => ?_
  by_cases hi : i < l.length
  · rw [List.getElem?_append_left hi] at hx
    rw [List.take_append_of_le_length (by omega)]
    exact logD_iff.1 h i x hx
  · have hl := (List.getElem?_eq_some_iff.1 hx).1
    simp only [List.length_append, List.length_singleton] at hl
    obtain rfl : i = l.length := by omega
    simp at hx
    subst hx
    simpa using hd
theorem textD_inj {a b : Deed} : textD a = textD b ↔ a.person = b.person ∧ a.no = b.no ∧ a.at_ = b.at_ ∧ a.prev = b.prev ∧ a.seen = b.seen ∧ a.data = b.data := by
  constructor
  · intro h
    have := enc_inj h
    simp only [cvD, CV.list.injEq, List.cons.injEq, CV.int.injEq, CV.text.injEq, and_true] at this
    obtain ⟨h1, h2, h3, h4, h5, h6⟩ := this
    refine ⟨h1, h2, h3, Subtype.ext h4, ?_, h6⟩
    have inj : ∀ (x y : List Dg), (x.map fun x => CV.text x.1) = (y.map fun x => CV.text x.1) → x = y := by
      intro x
      induction x with
      | nil => intro y h; cases y with
        | nil => rfl
        | cons a y => simp at h
      | cons a x ih => intro y h; cases y with
        | nil => simp at h
        | cons b y =>
          simp only [List.map_cons, List.cons.injEq, CV.text.injEq] at h
          rw [Subtype.ext h.1, ih _ h.2]
    exact inj _ _ h5
  · rintro ⟨h1, h2, h3, h4, h5, h6⟩
    unfold textD cvD
    rw [h1, h2, h3, h4, h5, h6]
end Go.Dee
end
section
/- Deeds: what the reference says of logs, plain. -/
namespace Go.Dee
open Go.NT Go.Sg Go.Sha Go.Cod
theorem fineD_inv {ks : List Int} {d : Deed} (h : fineD ks d = true) : formedD d = true ∧ d.person < (ks.length : Int) ∧ keyOf ks d.person ≠ 0 ∧ verS (keyOf ks d.person) (textD d) d.e d.s = true := by
  unfold fineD at h
  simp only [Bool.and_eq_true, decide_eq_true_eq, bne_iff_ne, ne_eq] at h
  exact ⟨h.1.1.1, h.1.1.2, h.1.2, h.2⟩
theorem formedD_inv {d : Deed} (h : formedD d = true) : (0 ≤ d.person ∧ d.person < 64 ∧ 0 ≤ d.no ∧ d.no < 4096 ∧ 0 ≤ d.at_ ∧ d.at_ < 1099511627776 ∧ d.seen.length ≤ 64 ∧ d.data.length ≤ 65536) ∧ incG d.seen = true ∧ (0 < d.no ∨ d.prev = zeroG) := by
  unfold formedD numsD firstD at h
  simp only [Bool.and_eq_true, Bool.or_eq_true, decide_eq_true_eq, beq_iff_eq] at h
  exact ⟨h.1.1, h.1.2, h.2⟩
theorem stepD_inv {ks : List Int} {pre : List Deed} {d : Deed} (h : stepD ks pre d = true) : fineD ks d = true ∧ d.no = nextD pre d.person ∧ d.prev = lastD pre d.person ∧ afterD pre d = true ∧ ∀ x ∈ d.seen, metD pre d.person x = true := by
  unfold stepD at h
  simp only [Bool.and_eq_true, beq_iff_eq, List.all_eq_true] at h
  exact ⟨h.1.1.1.1, h.1.1.1.2, h.1.1.2, h.1.2, h.2⟩
def hasR (l : List Deed) (p : Int) (x : Dg) : Bool := l.any fun y => decide (y.person ≠ p) && (idG y == x)
def lastR (l : List Deed) (p : Int) : Option Deed := (ofD l p).getLast?
def nowR (l : List Deed) (d : Deed) : Bool := match lastR l d.person with
  | none => d.no == 0
  | some x => d.no == x.no + 1 && d.prev == idG x
def followsR (l : List Deed) (d : Deed) : Bool := afterD l d && nowR l d && d.seen.all (hasR l d.person)
theorem ofD_snoc (l : List Deed) (y : Deed) (p : Int) : ofD (l ++ [y]) p = ofD l p ++ (if y.person = p then [y] else []) := by
  unfold ofD
  rw [List.filter_append]
  congr 1
  by_cases h : y.person = p <;> simp [h]
theorem logD_unsnoc {ks : List Int} {l : List Deed} {y : Deed} (h : logD ks (l ++ [y]) = true) : logD ks l = true ∧ stepD ks l y = true := by
  constructor
  · have := logD_take h l.length
    rwa [List.take_left'] at this
    rfl
  · have := logD_iff.1 h l.length y (by simp)
    rwa [List.take_left'] at this
    rfl
theorem logD_fine {ks : List Int} {l : List Deed} (h : logD ks l = true) : ∀ y ∈ l, fineD ks y = true := by
  intro y hy
  obtain ⟨i, hi, e⟩ := List.getElem_of_mem hy
  exact (stepD_inv (logD_iff.1 h i y (by rw [List.getElem?_eq_getElem hi, e]))).1
theorem idG_of {d : Deed} (h : formedD d = true) : idG d = idD d := if_pos h
theorem last_no {ks : List Int} {p : Int} : ∀ {l : List Deed}, logD ks l = true → ∀ x, lastR l p = some x → x.no + 1 = nextD l p ∧ lastD l p = idG x := by
  intro l
  induction hl : l.length generalizing l with
  | zero =>
    intro _ x hx
    have : l = [] := List.length_eq_zero_iff.1 hl
    subst this
    simp [lastR, ofD] at hx
  | succ n ih =>
    intro h x hx
    rcases List.eq_nil_or_concat l with rfl | ⟨m, y, rfl⟩
    · simp at hl
    rw [List.concat_eq_append] at *
    obtain ⟨h1, h2⟩ := logD_unsnoc h
    obtain ⟨f1, f2, -, -, -⟩ := stepD_inv h2
    unfold lastR nextD lastD at *
    rw [ofD_snoc] at *
    by_cases hp : y.person = p
    · rw [if_pos hp] at *
      simp only [List.getLast?_append, List.getLast?_singleton, Option.some_or, Option.some.injEq] at hx ⊢
      subst hx
      rw [hp] at f2
      refine ⟨?_, (idG_of (fineD_inv f1).1).symm⟩
      rw [f2, List.length_append]; rfl
    · rw [if_neg hp, List.append_nil] at *
      exact ih (by simpa using hl) h1 x hx
theorem hasR_eq {ks : List Int} {l : List Deed} (h : logD ks l = true) (p : Int) (x : Dg) : hasR l p x = metD l p x := by
  unfold hasR metD
  have h0 := logD_fine h
  clear h
  induction l with
  | nil => rfl
  | cons y l ih =>
    rw [List.any_cons, List.any_cons, ih fun z hz => h0 z (List.mem_cons_of_mem _ hz), idG_of (fineD_inv (h0 y List.mem_cons_self)).1]
theorem follows_eq {ks : List Int} {pre : List Deed} {d : Deed} (h : logD ks pre = true) (hd : fineD ks d = true) : followsR pre d = stepD ks pre d := by
  unfold followsR stepD
  rw [hd, Bool.true_and]
  have e1 : (d.seen.all (hasR pre d.person)) = d.seen.all (metD pre d.person) := by
    congr 1; funext x; exact hasR_eq h _ x
  rw [e1]
  have e2 : nowR pre d = ((d.no == nextD pre d.person) && (d.prev == lastD pre d.person)) := by
    unfold nowR
    cases hx : lastR pre d.person with
    | none =>
      have h0 : ofD pre d.person = [] := by
        unfold lastR at hx
        exact List.getLast?_eq_none_iff.1 hx
      simp only [nextD, lastD, h0, List.length_nil, List.getLast?_nil]
      obtain ⟨-, -, h3⟩ := formedD_inv (fineD_inv hd).1
      cases hn : d.no == 0 with
      | false => simp [hn]
      | true =>
        have : d.no = 0 := by simpa using hn
        rcases h3 with h3 | h3
        · omega
        · simp [this, h3]
    | some x =>
      obtain ⟨h1, h2⟩ := last_no h x hx
      simp only [← h1, h2]
  rw [e2]
  cases (d.no == nextD pre d.person) <;> cases (d.prev == lastD pre d.person) <;> cases afterD pre d <;> cases (d.seen.all (metD pre d.person)) <;> rfl
end Go.Dee
end
section
/- Maps. -/
namespace Go.Rn
open Go.RowKit
/-- What a map holds, in the order in which its entries came. -/
def setM {α β : Type} [DecidableEq α] (k : α) (v : β) : List (α × β) → List (α × β)
  | [] => [(k, v)]
  | (j, u) :: r => if k = j then (k, v) :: r else (j, u) :: setM k v r
def getM {α β : Type} [DecidableEq α] (k : α) : List (α × β) → Option β
  | [] => none
  | (j, u) :: r => if k = j then some u else getM k r
section
variable {α β : Type} [DecidableEq α]
theorem getM_set (k j : α) (v : β) : ∀ m, getM k (setM j v m) = if k = j then some v else getM k m
  | [] => by simp [setM, getM]
  | (i, u) :: r => by
    simp only [setM]
    by_cases h : j = i
    · subst h
      simp only [if_true, getM]
      by_cases h2 : k = j <;> simp [h2]
    · simp only [if_neg h, getM, getM_set k j v r]
      by_cases h2 : k = i
      · subst h2; simp [Ne.symm h]
      · simp [h2]
theorem getM_mem {k : α} {v : β} : ∀ {m : List (α × β)}, getM k m = some v → (k, v) ∈ m
  | (j, u) :: r, h => by
    simp only [getM] at h
    split at h
    · rename_i e; injection h with h; subst e; subst h; exact List.mem_cons_self
    · exact List.mem_cons_of_mem _ (getM_mem h)
theorem getM_isSome {k : α} : ∀ {m : List (α × β)}, (getM k m).isSome = true ↔ k ∈ m.map (·.1)
  | [] => by simp [getM]
  | (j, u) :: r => by
    simp only [getM, List.map_cons, List.mem_cons]
    by_cases h : k = j
    · simp [h]
    · simp [h, getM_isSome (m := r)]
theorem setM_keys (k : α) (v : β) : ∀ (m : List (α × β)), (setM k v m).map (·.1) = if k ∈ m.map (·.1) then m.map (·.1) else m.map (·.1) ++ [k]
  | [] => by simp [setM]
  | (j, u) :: r => by
    simp only [setM]
    by_cases h : k = j
    · subst h; simp
    · rw [if_neg h, List.map_cons, setM_keys k v r]
      by_cases hm : k ∈ r.map (·.1)
      · rw [if_pos hm, if_pos (show k ∈ ((j, u) :: r).map (·.1) from List.mem_cons_of_mem _ hm)]; rfl
      · rw [if_neg hm, if_neg (show ¬ k ∈ ((j, u) :: r).map (·.1) by simp only [List.map_cons, List.mem_cons, not_or]; exact ⟨h, hm⟩)]; rfl
theorem setM_map {γ : Type} (f : β → γ) (k : α) (v : β) : ∀ (m : List (α × β)), setM k (f v) (m.map fun x => (x.1, f x.2)) = (setM k v m).map fun x => (x.1, f x.2)
  | [] => rfl
  | (j, u) :: r => by
    simp only [setM, List.map_cons]
    by_cases h : k = j
    · simp [h]
    · simp only [if_neg h, List.map_cons, setM_map f k v r]
theorem getM_map {γ : Type} (f : β → γ) (k : α) : ∀ (m : List (α × β)), getM k (m.map fun x => (x.1, f x.2)) = (getM k m).map f
  | [] => rfl
  | (j, u) :: r => by
    simp only [getM, List.map_cons]
    by_cases h : k = j
    · simp [h]
    · simp only [if_neg h, getM_map f k r]
theorem setM_nodup {k : α} {v : β} {m : List (α × β)} (h : (m.map (·.1)).Nodup) : ((setM k v m).map (·.1)).Nodup := by
  rw [setM_keys]
  split
  · exact h
  · rename_i hk
    rw [List.nodup_append]
    refine ⟨h, by simp, fun a ha b hb e => ?_⟩
    simp only [List.mem_singleton] at hb
    subst hb; subst e; exact hk ha
theorem getM_of_mem {k : α} {v : β} : ∀ {m : List (α × β)}, (m.map (·.1)).Nodup → (k, v) ∈ m → getM k m = some v
  | (j, u) :: r, hn, h => by
    simp only [List.map_cons, List.nodup_cons] at hn
    simp only [getM]
    rcases List.mem_cons.1 h with e | h
    · cases e; simp
    · rw [if_neg (fun e => hn.1 (by rw [← e]; exact List.mem_map.2 ⟨(k, v), h, rfl⟩))]
      exact getM_of_mem hn.2 h
def entsOk (kv : α → Value) (good : α → Prop) (es : List MapEntry) (m : List (α × Value)) : Prop := es.map (fun e => (e.key, e.val)) = m.map (fun x => (kv x.1, x.2)) ∧ ∀ x ∈ m, good x.1
def bornOk (es : List MapEntry) (c : Nat) : Prop := (es.map (·.born)).Nodup ∧ ∀ e ∈ es, e.born < c
def MapK (kv : α → Value) (good : α → Prop) (w : World) (r : Nat) (m : List (α × Value)) : Prop := ∃ (es : Array MapEntry) (clock : Nat), w.heap[r]? = some (.map es clock) ∧ entsOk kv good es.toList m ∧ bornOk es.toList clock
theorem MapK.lt {kv : α → Value} {good : α → Prop} {w : World} {r : Nat} {m : List (α × Value)} (h : MapK kv good w r m) : r < w.heap.size := by
  obtain ⟨es, c, h, -⟩ := h; exact lt_of_get h
theorem MapK.ext {kv : α → Value} {good : α → Prop} {S : Nat → Prop} {w w' : World} {r : Nat} {m : List (α × Value)} (h : MapK kv good w r m) (e : ExtB S w w') (hn : ¬ S r) : MapK kv good w' r m := by
  obtain ⟨es, c, h1, h2⟩ := h
  exact ⟨es, c, by rw [e.block r (lt_of_get h1) hn]; exact h1, h2⟩
/-- How a key is found. -/
def Found (kv : α → Value) (good : α → Prop) (k : α) (es : List MapEntry) (m : List (α × Value)) (i : Nat) : Option (Nat × Value) → Prop
  | none => getM k m = none ∧ ∀ v, setM k v m = m ++ [(k, v)]
  | some (j, u) => getM k m = some u ∧ i ≤ j ∧ (∃ e, es[j - i]? = some e ∧ e.key = kv k) ∧ ∀ v, entsOk kv good (es.modify (j - i) fun e => { e with key := kv k, val := v }) (setM k v m)
structure KeyOk (P : Program) (kt : TypeId) (kv : α → Value) (good : α → Prop) : Prop where
  find : ∀ (w : World) (k : α) (es : List MapEntry) (m : List (α × Value)), good k → entsOk kv good es m → ∃ r, (Instr.findKey kt (kv k) es).run P w = .ok r w ∧ Found kv good k es m 0 r
  check : ∀ (w : World) (k : α) (b : Bool), good k → (Instr.checkKey b 10000 kt (kv k)).run P w = .ok () w
  same : ∀ k : α, good k → Instr.sameBits 10000 (kv k) (kv k) = true
theorem found_nil {kv : α → Value} {good : α → Prop} (k : α) {m : List (α × Value)} (i : Nat) (h : entsOk kv good [] m) : Found kv good k [] m i none := by
  have : m = [] := by cases m with | nil => rfl | cons => simp [entsOk] at h
  subst this
  exact ⟨rfl, fun v => rfl⟩
theorem found_cons {kv : α → Value} {good : α → Prop} {k : α} {e : MapEntry} {es : List MapEntry} {m : List (α × Value)} {i : Nat} (hg : good k) (h : entsOk kv good (e :: es) m) :
    ∃ j u m', m = (j, u) :: m' ∧ e.key = kv j ∧ good j ∧ entsOk kv good es m' ∧ (k = j → Found kv good k (e :: es) m i (some (i, e.val))) ∧ (k ≠ j → ∀ r, Found kv good k es m' (i + 1) r → Found kv good k (e :: es) m i r) := by
  obtain ⟨⟨j, u⟩, m', rfl⟩ : ∃ x m', m = x :: m' := by cases m with | nil => simp [entsOk] at h | cons x m' => exact ⟨x, m', rfl⟩
  obtain ⟨h, hgs⟩ := h
  simp only [List.map_cons, List.cons.injEq, Prod.mk.injEq] at h
  obtain ⟨⟨hk, hv⟩, hr⟩ := h
  have hgm : ∀ x ∈ m', good x.1 := fun x hx => hgs x (List.mem_cons_of_mem _ hx)
  refine ⟨j, u, m', rfl, hk, hgs _ List.mem_cons_self, ⟨hr, hgm⟩, fun hkj => ?_, fun hkj r h2 => ?_⟩
  · subst hkj
    simp only [Found]
    refine ⟨by simp [getM, hv], Nat.le_refl i, ⟨e, by simp, hk⟩, fun v => ?_⟩
    refine ⟨by simp [setM, hr], fun x hx => ?_⟩
    simp only [setM, if_true] at hx
    rcases List.mem_cons.1 hx with rfl | hx
    · exact hg
    · exact hgm x hx
  · match r, h2 with
    | none, h2 => exact ⟨by simp [getM, hkj, h2.1], fun v => by simp [setM, hkj, h2.2]⟩
    | some (q, u'), h2 =>
      simp only [Found] at h2 ⊢
      obtain ⟨h3, h4, ⟨e', h5, h6⟩, h7⟩ := h2
      have hq : q - i = (q - (i + 1)) + 1 := by omega
      refine ⟨by simp [getM, hkj, h3], by omega, ⟨e', by rw [hq]; simpa using h5, h6⟩, fun v => ?_⟩
      rw [hq]
      obtain ⟨h8, h9⟩ := h7 v
      refine ⟨by simp [setM, hkj, h8, hk, hv], fun x hx => ?_⟩
      simp only [setM, if_neg hkj] at hx
      rcases List.mem_cons.1 hx with rfl | hx
      · exact hgs _ List.mem_cons_self
      · exact h9 x hx
end
/-! ### Integer keys -/
theorem findNow_ok {kd : IntKind} (k : Int) : ∀ (es : List MapEntry) (m : List (Int × Value)) (i : Nat), entsOk (Value.int kd) (fun _ => True) es m →
    ∃ r, Instr.findNow (.int kd) (.int kd k) es i = some r ∧ Found (Value.int kd) (fun _ => True) k es m i r
  | [], m, i, h => ⟨none, rfl, found_nil k i h⟩
  | e :: es, m, i, h => by
    obtain ⟨j, u, m', -, hk, -, hr, h1, h2⟩ := found_cons (k := k) (i := i) trivial h
    simp only [Instr.findNow, hk, Instr.sameNow, if_true]
    by_cases hkj : k = j
    · exact ⟨some (i, e.val), by simp [hkj], h1 hkj⟩
    · have hb : (k == j) = false := by simpa using hkj
      rw [hb]
      obtain ⟨r, h3, h4⟩ := findNow_ok k es m' (i + 1) hr
      exact ⟨r, h3, h2 hkj r h4⟩
theorem keyOk_int {P : Program} {kt : TypeId} {kd : IntKind} (hk : P.underlying kt = some (.int kd)) : KeyOk P kt (Value.int kd) fun _ => True where
  find w k es m _ h := by
    obtain ⟨r, h1, h2⟩ := findNow_ok k es m 0 h
    refine ⟨r, ?_, h2⟩
    unfold Instr.findKey
    rw [run_bind _ _ (run_underlying hk), h1]; rfl
  check w k b _ := by
    show (Instr.checkKey b (9999 + 1) kt _).run P w = _
    unfold Instr.checkKey
    rw [run_bind _ _ (run_underlying hk)]
    rfl
  same k _ := by simp [Instr.sameBits]
/-! ### Arrays of bytes -/
/-- An array type of n bytes. -/
structure BytesArr (P : Program) (t e : TypeId) (n : Nat) : Prop where
  und : P.underlying t = some (.array n e)
  elem : P.underlying e = some (.int .u8)
  cells : cellsAgg P e = some (1, false)
  one : P.cellsOf e = 1
  guard : P.eqGuardType P.depth t = false
def digV (l : List UInt8) : Value := .agg (bytesV l).toArray
section
variable {P : Program} {w : World}
theorem run_eqItems_bytes {t e : TypeId} {n : Nat} (h : BytesArr P t e n) (d : Nat) (a b : List UInt8) (ha : a.length = n) (hb : b.length = n) : ∀ (m i : Nat), i + m = n →
    (Op.eqItems (d + 1) e 1 (bytesV a).toArray (bytesV b).toArray (List.range' i m)).run P w = .ok (a.drop i == b.drop i) w
  | 0, i, hi => by
    have e1 : a.drop i = [] := List.drop_eq_nil_of_le (by omega)
    have e2 : b.drop i = [] := List.drop_eq_nil_of_le (by omega)
    rw [e1, e2]; rfl
  | m + 1, i, hi => by
    have hia : i < a.length := by omega
    have hib : i < b.length := by omega
    have pa : (part e (bytesV a).toArray (i * 1)).run P w = .ok (.int .u8 (a[i].toNat : Int)) w := run_part h.cells _ _ (by simp [bytesV, hia])
    have pb : (part e (bytesV b).toArray (i * 1)).run P w = .ok (.int .u8 (b[i].toNat : Int)) w := run_part h.cells _ _ (by simp [bytesV, hib])
    have pe := run_equalIn_int (P := P) w d e .u8 .u8 (a[i].toNat : Int) (b[i].toNat : Int) h.elem
    rw [List.range'_succ]
    simp only [Op.eqItems]
    rw [run_bind _ _ pa, run_bind _ _ pb, run_bind _ _ pe]
    have e1 : a.drop i = a[i] :: a.drop (i + 1) := List.drop_eq_getElem_cons hia
    have e2 : b.drop i = b[i] :: b.drop (i + 1) := List.drop_eq_getElem_cons hib
    have eq : ((a[i].toNat : Int) == (b[i].toNat : Int)) = (a[i] == b[i]) := by
      rw [Bool.eq_iff_iff]; simp only [beq_iff_eq]
      constructor
      · intro h; exact UInt8.toNat_inj.1 (by omega)
      · intro h; rw [h]
    rw [eq, e1, e2]
    cases hab : (a[i] == b[i]) with
    | false =>
      have : (a[i] :: a.drop (i + 1) == b[i] :: b.drop (i + 1)) = false := by rw [List.cons_beq_cons, hab, Bool.false_and]
      rw [this]; rfl
    | true =>
      have : (a[i] :: a.drop (i + 1) == b[i] :: b.drop (i + 1)) = (a.drop (i + 1) == b.drop (i + 1)) := by rw [List.cons_beq_cons, hab, Bool.true_and]
      rw [this]
      exact run_eqItems_bytes h d a b ha hb m (i + 1) (by omega)
theorem run_equal_bytes {t e : TypeId} {n : Nat} (h : BytesArr P t e n) (a b : List UInt8) (ha : a.length = n) (hb : b.length = n) : (Op.equal t (digV a) (digV b)).run P w = .ok (a == b) w := by
  obtain ⟨i, _, hi, _, _, _⟩ := cellsAgg_inv h.cells
  show (Op.equalIn (9999 + 1) t _ _).run P w = _
  unfold digV
  rw [run_equalIn_array w 9999 _ _ h.und hi, h.one, List.range_eq_range']
  have := run_eqItems_bytes (w := w) h 9998 a b ha hb n 0 (by omega)
  simpa using this
variable {env : Env} {dst : Option Tmp} {ty : TypeId} {pos : String} {after : Array Edge} {guard : Option (Nat × Bool)}
theorem OpV.eqBytes {t e u : TypeId} {n : Nat} (h : BytesArr P t e n) {x y : Operand} {a b : List UInt8} (hx : evO env x = some (digV a)) (hy : evO env y = some (digV b)) (ha : a.length = n) (hb : b.length = n) :
    OpV P env w ⟨dst, .binOp .eql t x y u, ty, pos, after, guard⟩ (.bool (a == b)) := .of_run fun ρ hρ => by
  refine ⟨_, by simp only [execOp, hρ _ _ hx, hρ _ _ hy]; rfl, ?_⟩
  have h1 := run_eqGuard_agg (P := P) w .eql t x y (bytesV a).toArray (bytesV b).toArray h.guard
  have h2 := run_eql_struct (P := P) w t (bytesV a).toArray (bytesV b).toArray
  have h3 := run_equal_bytes (w := w) h a b ha hb
  unfold digV at h3 ⊢
  rw [run_bind _ _ h1, h2]
  have h4 : (Op.equalIn 10000 t (.agg (bytesV a).toArray) (.agg (bytesV b).toArray)).run P w = .ok (a == b) w := h3
  rw [h4]; rfl
theorem OpV.neBytes {t e u : TypeId} {n : Nat} (h : BytesArr P t e n) {x y : Operand} {a b : List UInt8} (hx : evO env x = some (digV a)) (hy : evO env y = some (digV b)) (ha : a.length = n) (hb : b.length = n) :
    OpV P env w ⟨dst, .binOp .neq t x y u, ty, pos, after, guard⟩ (.bool (!(a == b))) := .of_run fun ρ hρ => by
  refine ⟨_, by simp only [execOp, hρ _ _ hx, hρ _ _ hy]; rfl, ?_⟩
  have h1 := run_eqGuard_agg (P := P) w .neq t x y (bytesV a).toArray (bytesV b).toArray h.guard
  have h2 := run_neq_struct (P := P) w t (bytesV a).toArray (bytesV b).toArray
  have h3 := run_equal_bytes (w := w) h a b ha hb
  unfold digV at h3 ⊢
  rw [run_bind _ _ h1, h2]
  have h4 : (Op.equalIn 10000 t (.agg (bytesV a).toArray) (.agg (bytesV b).toArray)).run P w = .ok (a == b) w := h3
  rw [h4]; rfl
end
/-! ### Operations -/
section
variable {α : Type} [DecidableEq α] {kv : α → Value} {good : α → Prop}
variable {P : Program} {w : World} {env : Env} {dst : Option Tmp} {ty : TypeId} {pos : String} {after : Array Edge} {guard : Option (Nat × Bool)}
theorem OpE.makeMap (kv : α → Value) (good : α → Prop) {t : TypeId} : OpE P env w ⟨dst, .makeMap t none, ty, pos, after, guard⟩ (fun v w' => ∃ r, v = .map (some r) ∧ Added w w' r (.map #[] 0) ∧ MapK kv good w' r []) fun _ _ => False :=
  .of_run (w' := _) (v := _) ⟨w.heap.size, rfl, added_push w _, ⟨#[], 0, (added_push w _).at_, ⟨rfl, fun _ h => by simp at h⟩, ⟨by simp, fun _ h => by simp at h⟩⟩⟩ fun ρ hρ => ⟨_, rfl, rfl⟩
theorem run_lookup_ok {t kt et : TypeId} {r : Nat} {k : α} {m : List (α × Value)} {z : Value} (ht : P.underlying t = some (.map kt et)) (hk : KeyOk P kt kv good) (hz : (P.info? et).bind (·.zero) = some z)
    (hg : good k) (hm : MapK kv good w r m) (ok : Bool) : (Instr.lookup t (.map (some r)) (kv k) ok).run P w = .ok (if ok then .tuple #[(getM k m).getD z, .bool (getM k m).isSome] else (getM k m).getD z) w := by
  obtain ⟨es, c, h1, h2, -⟩ := hm
  obtain ⟨i, hi, hiz⟩ := Option.bind_eq_some_iff.1 hz
  have hzr : (zeroValue et).run P w = .ok z w := by unfold zeroValue; rw [run_bind _ _ (run_typeInfo hi), hiz]; rfl
  obtain ⟨q, hf, h4⟩ := hk.find w k es.toList m hg h2
  unfold Instr.lookup
  rw [run_bind _ _ (run_underlying ht)]
  simp only
  rw [run_bind _ _ (run_getObj h1 (by intros; simp))]
  simp only
  rw [run_bind (v := es) (w' := w) _ _ rfl, run_bind _ _ (hk.check w k _ hg)]
  match q, h4, hf with
  | none, h4, hf =>
    rw [run_bind _ _ hf]
    simp only
    rw [run_bind _ _ hzr, h4.1]; rfl
  | some (j, u), h4, hf =>
    rw [run_bind _ _ hf, h4.1]; rfl
theorem OpV.lookup {t kt et : TypeId} {x y : Operand} {r : Nat} {k : α} {m : List (α × Value)} {z : Value} (ht : P.underlying t = some (.map kt et)) (hk : KeyOk P kt kv good) (hz : (P.info? et).bind (·.zero) = some z)
    (hx : evO env x = some (.map (some r))) (hy : evO env y = some (kv k)) (hg : good k) (hm : MapK kv good w r m) :
    OpV P env w ⟨dst, .lookup t x y false, ty, pos, after, guard⟩ ((getM k m).getD z) := .of_run fun ρ hρ =>
  ⟨_, by simp only [execOp, hρ _ _ hx, hρ _ _ hy] <;> rfl, run_lookup_ok ht hk hz hg hm false⟩
theorem OpV.lookup2 {t kt et : TypeId} {x y : Operand} {r : Nat} {k : α} {m : List (α × Value)} {z : Value} (ht : P.underlying t = some (.map kt et)) (hk : KeyOk P kt kv good) (hz : (P.info? et).bind (·.zero) = some z)
    (hx : evO env x = some (.map (some r))) (hy : evO env y = some (kv k)) (hg : good k) (hm : MapK kv good w r m) :
    OpV P env w ⟨dst, .lookup t x y true, ty, pos, after, guard⟩ (.tuple #[(getM k m).getD z, .bool (getM k m).isSome]) := .of_run fun ρ hρ =>
  ⟨_, by simp only [execOp, hρ _ _ hx, hρ _ _ hy] <;> rfl, run_lookup_ok ht hk hz hg hm true⟩
theorem OpE.mapSet {t kt et : TypeId} {x y zz : Operand} {r : Nat} {k : α} {v : Value} {m : List (α × Value)} (ht : P.underlying t = some (.map kt et)) (hk : KeyOk P kt kv good)
    (hx : evO env x = some (.map (some r))) (hy : evO env y = some (kv k)) (hv : evO env zz = some v) (hg : good k) (hm : MapK kv good w r m) :
    OpE P env w ⟨dst, .mapUpdate t x y zz, ty, pos, after, guard⟩ (fun _ w' => MapK kv good w' r (setM k v m) ∧ ExtB (· = r) w w' ∧ w'.heap.size = w.heap.size) fun _ _ => False := by
  obtain ⟨es, c, h1, h2, hbo⟩ := hm
  obtain ⟨q, hf, h4⟩ := hk.find w k es.toList m hg h2
  have hlt := lt_of_get h1
  obtain ⟨es', c', hes, hbo', hrun⟩ : ∃ es' c', entsOk kv good es'.toList (setM k v m) ∧ bornOk es'.toList c' ∧ (Instr.mapUpdate t (.map (some r)) (kv k) v).run P w = .ok () (World.setObj w r (.map es' c')) := by
    unfold Instr.mapUpdate
    match q, h4, hf with
    | none, h4, hf =>
      refine ⟨es.push { key := kv k, val := v, born := c }, c + 1, ?_, ?_, ?_⟩
      rotate_left
      · obtain ⟨b1, b2⟩ := hbo
        refine ⟨?_, fun e he => ?_⟩
        · rw [Array.toList_push, List.map_append, List.map_singleton, List.nodup_append]
          refine ⟨b1, by simp, fun a ha b hb => ?_⟩
          simp only [List.mem_singleton] at hb; subst hb
          obtain ⟨e, he, rfl⟩ := List.mem_map.1 ha
          have := b2 e he
          exact Nat.ne_of_lt this
        · rw [Array.toList_push] at he
          rcases List.mem_append.1 he with he | he
          · have := b2 e he; omega
          · simp only [List.mem_singleton] at he; subst he; exact Nat.lt_succ_self c
      rotate_left
      · rw [h4.2]
        refine ⟨by have := h2.1; simp [this], fun x hx => ?_⟩
        rcases List.mem_append.1 hx with hx | hx
        · exact h2.2 x hx
        · simp at hx; subst hx; exact hg
      · rw [run_bind _ _ (run_underlying ht)]
        simp only
        rw [run_bind _ _ (run_getObj h1 (by intros; simp))]
        simp only
        rw [run_bind _ _ (hk.check w k _ hg), run_bind _ _ hf]
        exact run_setObj h1 (by intros; simp)
    | some (j, u), h4, hf =>
      simp only [Found, Nat.sub_zero] at h4
      obtain ⟨-, -, ⟨e, he, hek⟩, h7⟩ := h4
      refine ⟨es.modify j fun e => { e with key := kv k, val := v }, c, ?_, ?_, ?_⟩
      · rw [Array.toList_modify]; exact h7 v
      · obtain ⟨b1, b2⟩ := hbo
        have hmp : (es.toList.modify j fun e => { e with key := kv k, val := v }).map (·.born) = es.toList.map (·.born) := by
          apply List.ext_getElem?
          intro i
          simp only [List.getElem?_map, List.getElem?_modify]
          cases es.toList[i]? with
          | none => rfl
          | some e => by_cases h : j = i <;> simp [h]
        rw [Array.toList_modify]
        refine ⟨by rw [hmp]; exact b1, fun e he => ?_⟩
        have : e.born ∈ (es.toList.modify j fun e => { e with key := kv k, val := v }).map (·.born) := List.mem_map.2 ⟨e, he, rfl⟩
        rw [hmp] at this
        obtain ⟨e', he', hb⟩ := List.mem_map.1 this
        rw [← hb]; exact b2 e' he'
      · rw [run_bind _ _ (run_underlying ht)]
        simp only
        rw [run_bind _ _ (run_getObj h1 (by intros; simp))]
        simp only
        rw [run_bind _ _ (hk.check w k _ hg), run_bind _ _ hf]
        simp only
        have hgk : ((es[j]?).map (·.key)).getD (kv k) = kv k := by
          rw [Array.getElem?_toList] at he
          rw [he]; simp [hek]
        rw [hgk]
        have hks : (Instr.keyThatStays (kv k) (kv k)).run P w = .ok (kv k) w := by
          unfold Instr.keyThatStays
          rw [hk.same k hg]; rfl
        rw [run_bind _ _ hks]
        exact run_setObj h1 (by intros; simp)
  have ht' := turned_set w hlt (.map es' c')
  intro ρ hρ
  have he : execOp ρ ⟨dst, .mapUpdate t x y zz, ty, pos, after, guard⟩ = (do Instr.mapUpdate t (.map (some r)) (kv k) v; pure .skip : Sem Next) := by
    simp only [execOp, hρ _ _ hx, hρ _ _ hy, hρ _ _ hv]
  exact ExecE.of_skip (w' := World.setObj w r (.map es' c')) (by rw [he, run_bind _ _ hrun]; rfl) ⟨⟨es', c', ht'.at_, hes, hbo'⟩, ht'.ext, ht'.size⟩
end
end Go.Rn
end
section
/- Maps whose keys are arrays of bytes. -/
namespace Go.Rn
open Go.RowKit
variable {P : Program} {w : World}
theorem findAsking_ok {kt e : TypeId} {n : Nat} (h : BytesArr P kt e n) (k : List UInt8) (hk : k.length = n) : ∀ (es : List MapEntry) (m : List (List UInt8 × Value)) (i : Nat), entsOk digV (fun l => l.length = n) es m →
    ∃ r, (Instr.findAsking kt (digV k) es i).run P w = .ok r w ∧ Found digV (fun l => l.length = n) k es m i r
  | [], m, i, hm => ⟨none, rfl, found_nil k i hm⟩
  | x :: es, m, i, hm => by
    obtain ⟨j, u, m', -, hkj, hg, hr, h1, h2⟩ := found_cons (k := k) (i := i) hk hm
    have he := run_equal_bytes (w := w) h k j hk hg
    simp only [Instr.findAsking]
    rw [hkj, run_bind _ _ he]
    by_cases hh : k = j
    · have hb : (k == j) = true := by simpa using hh
      rw [hb]
      exact ⟨some (i, x.val), rfl, h1 hh⟩
    · have hb : (k == j) = false := by simpa using hh
      rw [hb]
      obtain ⟨r, h3, h4⟩ := findAsking_ok h k hk es m' (i + 1) hr
      exact ⟨r, h3, h2 hh r h4⟩
theorem run_checkKey_bytes {kt e : TypeId} {n : Nat} (h : BytesArr P kt e n) (k : List UInt8) (hk : k.length = n) (b : Bool) : (Instr.checkKey b 10000 kt (digV k)).run P w = .ok () w := by
  obtain ⟨ti, _, hi, _, _, _⟩ := cellsAgg_inv h.cells
  show (Instr.checkKey b (9999 + 1) kt (.agg (bytesV k).toArray)).run P w = _
  unfold Instr.checkKey
  rw [run_bind _ _ (run_underlying h.und)]
  simp only [Std.Legacy.Range.forIn_eq_forIn_range', Std.Legacy.Range.size, Nat.sub_zero, Nat.add_one_sub_one, Nat.div_one]
  have hchk : ∀ v : Value, (Instr.checkKey b (9998 + 1) e v).run P w = .ok () w := fun v => by
    unfold Instr.checkKey
    rw [run_bind _ _ (run_underlying h.elem)]
    rfl
  have hsz : ti.size = 1 := by
    have := h.one; unfold Program.cellsOf at this; rw [hi] at this; simpa using this
  have key : ∀ (m i : Nat), i + m = n → (forIn (m := Sem) (List.range' i m) PUnit.unit fun i _ => do
        let d ← sizeOf e
        let p ← part e (bytesV k).toArray (i * d)
        Instr.checkKey b 9999 e p
        pure (ForInStep.yield PUnit.unit)).run P w = .ok PUnit.unit w := by
    intro m
    induction m with
    | zero => intro i _; rfl
    | succ m ih =>
      intro i hi'
      have hik : i < k.length := by omega
      have pa : (part e (bytesV k).toArray (i * ti.size)).run P w = .ok (.int .u8 (k[i].toNat : Int)) w := by rw [hsz]; exact run_part h.cells _ _ (by simp [bytesV, hik])
      rw [List.range'_succ, List.forIn_cons]
      refine Eq.trans (run_bind (v := ForInStep.yield PUnit.unit) (w' := w) _ _ ?_) (ih (i + 1) (by omega))
      rw [run_bind _ _ (run_sizeOf hi), run_bind _ _ pa, run_bind _ _ (hchk _)]
      rfl
  exact run_bind _ _ (key n 0 (by omega)) |>.trans rfl
theorem keyOk_bytes {kt e : TypeId} {n : Nat} (h : BytesArr P kt e n) : KeyOk P kt digV fun l => l.length = n where
  find w k es m hk hm := by
    unfold Instr.findKey
    cases es with
    | nil =>
      refine ⟨none, ?_, found_nil k 0 hm⟩
      rw [run_bind _ _ (run_underlying h.und)]; rfl
    | cons x es =>
      obtain ⟨r, h1, h2⟩ := findAsking_ok (w := w) h k hk (x :: es) m 0 hm
      refine ⟨r, ?_, h2⟩
      rw [run_bind _ _ (run_underlying h.und)]
      exact h1
  check w k b hk := run_checkKey_bytes h k hk b
  same k _ := by
    show Instr.sameBits (9999 + 1) (.agg (bytesV k).toArray) (.agg (bytesV k).toArray) = true
    simp only [Instr.sameBits, beq_self_eq_true, Bool.true_and]
    rw [List.all_eq_true]
    rintro ⟨a, b⟩ hx
    have hab : a = b ∧ a ∈ bytesV k := by
      obtain ⟨i, hi⟩ := List.getElem?_of_mem hx
      rw [List.getElem?_zip_eq_some] at hi
      exact ⟨Option.some.inj (hi.1.symm.trans hi.2), List.mem_of_getElem? hi.1⟩
    obtain ⟨rfl, ha⟩ := hab
    simp only [bytesV, List.mem_map] at ha
    obtain ⟨c, -, rfl⟩ := ha
    simp [Instr.sameBits]
end Go.Rn
end
section
/- Deeds: in memory. -/
namespace Go.Dee
open Go.Rn Go.RowKit Go.Rec Go.Sha Go.Sg
def cB (x : Dg) (i : Nat) : Value := .int .u8 ((x.1.getD i 0).toNat : Int)
def digC (x : Dg) : List Value := [cB x 0, cB x 1, cB x 2, cB x 3, cB x 4, cB x 5, cB x 6, cB x 7, cB x 8, cB x 9, cB x 10, cB x 11, cB x 12, cB x 13, cB x 14, cB x 15, cB x 16, cB x 17, cB x 18, cB x 19, cB x 20, cB x 21, cB x 22, cB x 23, cB x 24, cB x 25, cB x 26, cB x 27, cB x 28, cB x 29, cB x 30, cB x 31]
theorem digC_eq (x : Dg) : digC x = bytesV x.1 := by
  obtain ⟨l, hl⟩ := x
  apply List.ext_getElem?
  intro i
  rcases Nat.lt_or_ge i 32 with h | h
  · rw [bytesV_get (show i < l.length by omega)]
    have : digC ⟨l, hl⟩ = (List.range 32).map (cB ⟨l, hl⟩) := rfl
    rw [this, List.getElem?_map, List.getElem?_range h]; rfl
  · rw [List.getElem?_eq_none (by exact h), List.getElem?_eq_none (by rw [bytesV_length]; show l.length ≤ i; omega)]
theorem encG : EncOk digC 32 := ⟨fun _ => rfl, fun _ => rfl, by decide⟩
theorem digV_eq (x : Dg) : Value.agg (digC x).toArray = digV x.1 := by unfold digV; rw [digC_eq]
/-- A deed, with the places of its lists. -/
structure Dr where
  d : Deed
  ua : Option Addr
  uc : Nat
  va : Option Addr
  vc : Nat
def Dr.u (x : Dr) : Value := .slice x.ua x.d.seen.length x.uc
def Dr.v (x : Dr) : Value := .slice x.va x.d.data.length x.vc
def dCells (d : Deed) (u v : Value) : List Value := [.int .i64 d.person, .int .i64 d.no, .int .i64 d.at_, cB d.prev 0, cB d.prev 1, cB d.prev 2, cB d.prev 3, cB d.prev 4, cB d.prev 5, cB d.prev 6, cB d.prev 7, cB d.prev 8, cB d.prev 9, cB d.prev 10, cB d.prev 11, cB d.prev 12, cB d.prev 13, cB d.prev 14, cB d.prev 15, cB d.prev 16, cB d.prev 17, cB d.prev 18, cB d.prev 19, cB d.prev 20, cB d.prev 21, cB d.prev 22, cB d.prev 23, cB d.prev 24, cB d.prev 25, cB d.prev 26, cB d.prev 27, cB d.prev 28, cB d.prev 29, cB d.prev 30, cB d.prev 31, u, v, .int .i64 d.e, .int .i64 d.s]
abbrev Dr.cells (x : Dr) : List Value := dCells x.d x.u x.v
theorem encR : EncOk Dr.cells 39 := ⟨fun _ => rfl, fun _ => rfl, by decide⟩
structure HoldR (w : World) (x : Dr) : Prop where
  seen : IsL w digC 32 x.u x.d.seen
  data : IsSl w 1 x.v x.d.data.length (bytesV x.d.data)
theorem HoldR.up {w w' : World} {x : Dr} (h : HoldR w x) (e : Ext w w') : HoldR w' x := ⟨h.seen.up e, h.data.extE e⟩
abbrev LDr (w : World) (v : Value) (l : List Dr) : Prop := IsL w Dr.cells 39 v l
def AllR (w : World) (l : List Dr) : Prop := ∀ x ∈ l, HoldR w x
theorem AllR.up {w w' : World} {l : List Dr} (h : AllR w l) (e : Ext w w') : AllR w' l := fun x hx => (h x hx).up e
def zeroR : Dr := ⟨zeroD, none, 0, none, 0⟩
theorem zeroR_held (w : World) : HoldR w zeroR := ⟨IsSl.nil, IsSl.nil⟩
theorem row_prev {w : World} {b o : Nat} {d : Deed} {u v : Value} (h : Row w b o (dCells d u v)) : Row w b (o + 3) (digC d.prev) := h.window fun i c hc => by
  have e : dCells d u v = [.int .i64 d.person, .int .i64 d.no, .int .i64 d.at_] ++ (digC d.prev ++ [u, v, .int .i64 d.e, .int .i64 d.s]) := rfl
  rw [e, List.getElem?_append_right (by simp), List.getElem?_append_left (by
    have := (List.getElem?_eq_some_iff.1 hc).1
    simp only [List.length_cons, List.length_nil]; omega)]
  simpa using hc
theorem row_sig {w : World} {b o : Nat} {d : Deed} {u v : Value} (h : Row w b o (dCells d u v)) : Row w b (o + 37) [.int .i64 d.e, .int .i64 d.s] := h.window fun i c hc => by
  rcases i with _ | _ | i
  · exact hc
  · exact hc
  · simp at hc
/-- A deed's two lists. -/
abbrev LDg (w : World) (u : Value) (l : List Dg) : Prop := IsL w digC 32 u l
abbrev LBy (w : World) (v : Value) (l : List UInt8) : Prop := IsSl w 1 v l.length (bytesV l)
end Go.Dee
end
section
/- Comparing bytes: what the model answers itself. -/
namespace Go.Rn
open Go.RowKit Go.Sha
variable {P : Program} {w : World}
theorem run_loadB : ∀ (l : List UInt8) (b o : Nat) (acc : ByteArray), Row w b o (bytesV l) → (Extern.Bytes.loadBytes ⟨b, o, none⟩ l.length acc).run P w = .ok ⟨acc.data ++ l.toArray⟩ w
  | [], b, o, acc, _ => by simp [Extern.Bytes.loadBytes]
  | x :: l, b, o, acc, h => by
    have h0 : w.cell? ⟨b, o, none⟩ = some (.int .u8 (x.toNat : Int)) := h 0 _ rfl
    have h1 : Row w b (o + 1) (bytesV l) := h.window fun i v hv => by
      have e : i + 1 = 1 + i := Nat.add_comm _ _
      rw [← e]; exact hv
    have ih := run_loadB l b (o + 1) (acc.push x) h1
    have e : (⟨b, o, none⟩ : Addr).add 1 = ⟨b, o + 1, none⟩ := by simp [Addr.add]
    simp only [List.length_cons, Extern.Bytes.loadBytes, Sem.run_bind, run_load h0, Result.andThen]
    rw [e]
    have hx : ((x.toNat : Int).toNat.toUInt8) = x := by simp
    rw [hx, ih]
    congr 1
    apply ByteArray.ext
    simp [ByteArray.push]
theorem run_bytesOf {v : Value} {l : List UInt8} (h : IsSl w 1 v l.length (bytesV l)) : (Extern.Bytes.bytesOf v).run P w = .ok ⟨l.toArray⟩ w := by
  rcases h.inv with ⟨d, rfl, h1, -⟩ | ⟨b, o, c, rfl, hr, -⟩
  · obtain rfl : l = [] := List.length_eq_zero_iff.1 h1
    cases d with
    | none => rfl
    | some d => rfl
  · have := run_loadB (P := P) l b o .empty hr
    simpa [Extern.Bytes.bytesOf] using this
theorem run_cmpBytes {u v : Value} {a b : List UInt8} (h : IsSl w 1 u a.length (bytesV a)) (h' : IsSl w 1 v b.length (bytesV b)) : (Extern.BytealgCompare.compare #[u, v]).run P w = .ok (.int .i64 (Lib.compareBytes a b)) w := by
  change Sem.run P (do pure (goInt (Extern.BytealgCompare.cmp (← Extern.Bytes.bytesOf u) (← Extern.Bytes.bytesOf v)))) w = _
  simp only [Sem.run_bind, run_bytesOf h, run_bytesOf h', Sem.run_pure, Result.andThen]
  rw [Lib.cmp_eq]
  rfl
theorem cmpB_lt : ∀ {a b : List UInt8}, a.length = b.length → (Lib.compareBytes a b < 0 ↔ Dee.lessL a b = true)
  | [], [], _ => by simp [Lib.compareBytes, Dee.lessL]
  | x :: a, y :: b, h => by
    have ih := cmpB_lt (a := a) (b := b) (by simpa using h)
    unfold Lib.compareBytes Dee.lessL
    by_cases hxy : x = y
    · subst hxy
      have hlt : ¬ x < x := UInt8.lt_irrefl x
      rw [if_neg hlt, if_neg hlt, if_pos rfl]; exact ih
    · rw [if_neg hxy]
      by_cases hlt : x < y
      · rw [if_pos hlt]
        have : x.toNat < y.toNat := hlt
        simp [this]
      · rw [if_neg hlt]
        have h2 : y < x := UInt8.lt_of_le_of_ne (UInt8.not_lt.1 hlt) (Ne.symm hxy)
        rw [if_pos h2]
        have : ¬ x.toNat < y.toNat := fun h => hlt h
        simp [this]
end Go.Rn
end
section
/- Operations of the library's slice functions. -/
namespace Go.Rn
open Go.RowKit Go.Lib Go.Rec
section
variable {P : Program} {w : World} {env : Env} {dst : Option Tmp} {ty : TypeId} {pos : String} {after : Array Edge} {guard : Option (Nat × Bool)}
/-- s == nil -/
theorem OpV.eqNilSl {t e u : TypeId} {x y : Operand} {d : Option Addr} {n c : Nat} (ht : P.underlying t = some (.slice e)) (hx : evO env x = some (.slice d n c)) (hy : evO env y = some (.slice none 0 0)) :
    OpV P env w ⟨dst, .binOp .eql t x y u, ty, pos, after, guard⟩ (.bool d.isNone) := by
  refine .of_run fun ρ hρ => ⟨_, by simp only [execOp, hρ _ _ hx, hρ _ _ hy]; rfl, ?_⟩
  rw [run_bind _ _ (run_eqGuard_plain .eql t x y (by intro c; simp) (by simp))]
  simp only [binOp]
  have : (Op.equal t (.slice d n c) (.slice none 0 0)).run P w = .ok d.isNone w := by
    unfold Op.equal; rw [show Op.maxDepth = 9999 + 1 from rfl, Op.equalIn, run_bind _ _ (run_underlying ht)]
    cases d <;> rfl
  rw [run_bind _ _ this]; rfl
/-- A call that the model answers itself. -/
theorem OpV.callX {g : FuncId} {args : Array Operand} {ts : Array TypeId} {vs : List Value} {v : Value} (ha : evL env args.toList = some vs) (hc : (callFunc g vs.toArray).run P w = .ok (.value v) w) :
    OpV P env w ⟨dst, .call ⟨.value (.func g), args, ts⟩, ty, pos, after, guard⟩ v := fun ρ hρ => by
  have e : args.map ρ = vs.toArray := evL_mapA hρ ha
  unfold execOp
  simp only
  rw [run_bind (v := { target := .fn (.func g) #[], args := vs.toArray }) (w' := w) _ _ ?_]
  · simp only [invoke]
    simpa using hc
  · simp only [resolve, Act.eval, e] <;> simp [Deferred.ofValue, hρ (.func g) _ rfl, Pure.pure]
theorem OpE.growOnto {T : Tab} (hT : T.Ok P) {t e ti : TypeId} {kt : IntKind} {sz : Nat} {ag : Bool} {s bb s' bb' : Nat} {z z' : List Value} {a u a' u' : Bool} {ie : TI} {x y : Operand} {kd : IntKind} {i : Int} {m g n cap : Nat} {olds : List Value}
    (ht : T.get t = some ⟨.slc sz ag e, s, bb, z, a, u⟩) (hti : T.get ti = some ⟨.int kt, s', bb', z', a', u'⟩) (he : T.get e = some ie) (hz : ie.zero.length = sz) (hsz : Nat.blt 0 sz = true)
    (hx : evO env x = some (.slice (some ⟨g, 0, none⟩) n cap)) (hy : evO env y = some (.int kd i)) (hi : i = (m : Int)) (hm : 0 < m) (hr : Row w g 0 olds) (hol : olds.length = n * sz) (hg : cap < n + m)
    (hb : (n + m) * ie.bytes ≤ 1000000000) (h63 : n + m ≤ 1000000000) :
    OpE P env w ⟨dst, .call ⟨.builtin .append, #[x, y], #[t, ti]⟩, ty, pos, after, guard⟩
      (fun v w' => ∃ B cap' rest, v = .slice (some ⟨B, 0, none⟩) (n + m) cap' ∧ n + m ≤ cap' ∧ B = w.heap.size ∧ Ext w w' ∧ Blk w' B (olds ++ rest) e ∧ rest.length = (cap' - n) * sz) fun _ _ => False := by
  obtain ⟨hu, hc'⟩ := TD.of_slc (TI.tdof (hT.get _ _ ht)).symm
  have hui := TD.of_int (TI.tdof (hT.get _ _ hti)).symm
  obtain ⟨j, dd, zv, hj, hd, hzv, h1, h2, h3, h4, h5, _⟩ := TI.inv (hT.get _ _ he)
  obtain ⟨ii, d', hii, hs', _, _⟩ := cellsAgg_inv hc'
  rw [hii] at hj; cases hj
  have hzs : zv.cells.size = sz := by rw [← hz, h3]; simp
  subst hi
  have hsz' : 0 < sz := by simpa [Nat.blt_eq] using hsz
  have hold : (Builtin.firstCells j.size n (.slice (some ⟨g, 0, none⟩) n cap)).run P w.drew = .ok olds.toArray w.drew := by
    rw [hs']
    exact run_firstCells (P := P) (w := w.drew) (fun i v hv => hr i v hv) hol
  have hfit : Builtin.nextslicecap (n + m) cap * j.bytes ≤ 281474976710656 := by
    rw [← h2]
    have := Nat.mul_le_mul_right ie.bytes (nextslicecap_le (need := n + m) (old := cap) (by omega))
    have e2 : 2 * (n + m) * ie.bytes = 2 * ((n + m) * ie.bytes) := Nat.mul_assoc _ _ _
    omega
  have hmb : m * j.bytes ≤ 281474976710656 := by
    rw [← h2]
    have := Nat.mul_le_mul_right ie.bytes (show m ≤ n + m by omega)
    omega
  have hrun := run_append_grow_zeros (P := P) w t ti ty e j zv kd kt hu hui hii hzv (some ⟨g, 0, none⟩) n cap olds hold m hm (by omega) hg (by omega) hmb hfit
  have hcap := grownCap_ge w (n + m) cap e
  refine .of_run (w' := _) (v := _) ?_ fun ρ hρ => ⟨_, by simp only [execOp, resolve, List.map_toArray, List.map_cons, List.map_nil, hρ _ _ hx, hρ _ _ hy] <;> rfl, hrun⟩
  refine ⟨_, _, (Builtin.zeroCells zv.cells m ++ Builtin.zeroCells zv.cells (grownCap w (n + m) cap e - (n + m))).toList, rfl, hcap, rfl, ⟨Nat.le_succ _, rfl, rfl, rfl, by simp, fun k hk _ => (by apply heap_alloc_old; exact hk)⟩, ?_, ?_⟩
  · unfold Blk
    refine (heap_alloc_new w.drew _).trans ?_
    congr 2
    apply Array.ext'
    simp
  · simp only [Array.length_toList, Array.size_append, size_zeroCells, hzs, ← Nat.add_mul]
    congr 1
    omega
/-- append to an empty slice without room: nothing that was there is written. -/
theorem OpE.append0 {T : Tab} (hT : T.Ok P) {t e : TypeId} {sz : Nat} {ag : Bool} {s bb : Nat} {z : List Value} {a u : Bool} {ie : TI} {x y : Operand} {vx : Value} {g m : Nat} {news : List Value}
    (ht : T.get t = some ⟨.slc sz ag e, s, bb, z, a, u⟩) (he : T.get e = some ie) (hz : ie.zero.length = sz)
    (hx : evO env x = some (.slice (some ⟨g, 0, none⟩) 0 0)) (hy : evO env y = some vx) (hn : IsSl w sz vx m news) (hbytes : m * ie.bytes ≤ 140737488355328) (h63 : m ≤ 9223372036854775807) :
    OpE P env w ⟨dst, .call ⟨.builtin .append, #[x, y], #[t, t]⟩, ty, pos, after, guard⟩
      (fun v' w' => ((m = 0 ∧ v' = .slice (some ⟨g, 0, none⟩) 0 0) ∨ w'.ownsRow w.heap.size e sz v' m news) ∧ Ext w w') fun _ _ => False := by
  obtain ⟨hu, hc⟩ := TD.of_slc (TI.tdof (hT.get _ _ ht)).symm
  obtain ⟨j, dd, zv, hj, hd, hzv, h1, h2, h3, h4, h5, _⟩ := TI.inv (hT.get _ _ he)
  obtain ⟨i, d', hi, hs', _, _⟩ := cellsAgg_inv hc
  rw [hi] at hj; cases hj
  have hzs : zv.cells.size = sz := by rw [← hz, h3]; simp
  have call : ∀ {v' : Value} {w' : World}, (Builtin.append_ #[t, t] ty #[.slice (some ⟨g, 0, none⟩) 0 0, vx]).run P w = .ok v' w' → ∀ ρ : Operand → Value, (∀ x v, evO env x = some v → ρ x = v) →
      ∃ s : Sem Value, execOp ρ ⟨dst, .call ⟨.builtin .append, #[x, y], #[t, t]⟩, ty, pos, after, guard⟩ = (do pure (.value (← s)) : Sem Next) ∧ s.run P w = .ok v' w' := fun hr ρ hρ =>
    ⟨_, by simp only [execOp, resolve, List.map_toArray, List.map_cons, List.map_nil, hρ _ _ hx, hρ _ _ hy]; rfl, hr⟩
  rcases hn.inv with ⟨d0, rfl, rfl, rfl⟩ | ⟨b, o, c, rfl, hr, hl, hcap⟩
  · have hf : ∀ w, (Builtin.firstCells j.size 0 (.slice d0 0 0)).run P w = .ok #[] w := fun w => by cases d0 <;> simp [Builtin.firstCells, loadCells, loadCellsFrom, Pure.pure]
    have hr : (Builtin.append_ #[t, t] ty #[.slice (some ⟨g, 0, none⟩) 0 0, .slice d0 0 0]).run P w = .ok (.slice (some ⟨g, 0, none⟩) 0 0) w := by
      simp [Builtin.append_, run_underlying hu, sizeOf, typeInfo, hi, Builtin.lenOf, hf, storeCells]
    exact .of_run ⟨.inl ⟨rfl, rfl⟩, ExtB.refl _ _⟩ (call hr)
  · by_cases hm : m = 0
    · subst hm
      have hrun2 : (Builtin.append_ #[t, t] ty #[.slice (some ⟨g, 0, none⟩) 0 0, .slice (some ⟨b, o, none⟩) 0 c]).run P w = .ok (.slice (some ⟨g, 0, none⟩) 0 0) w := by
        simp [Builtin.append_, run_underlying hu, sizeOf, typeInfo, hi, Builtin.lenOf, Builtin.firstCells, loadCells, loadCellsFrom, storeCells]
      exact .of_run ⟨.inl ⟨rfl, rfl⟩, ExtB.refl _ _⟩ (call hrun2)
    · have hrun := run_append_grow (P := P) (w := w) t ty e j zv hu hi hzv ⟨g, 0, none⟩ 0 0 [] (by simp) (fun j v h => by simp at h) ⟨b, o, none⟩ m c news (by rw [hl, hs']) (fun q v hv => by rw [add_none]; exact hr q v hv) (by omega) (by omega)
        (growslice_fits (by omega) (by rw [Nat.zero_add, ← h2]; exact hbytes))
      rw [Nat.zero_add] at hrun
      have hcap2 := grownCap_ge w m 0 e
      have hcm : grownCap w m 0 e ≤ maxLen := grownCap_le_maxLen w m 0 e (by simp only [maxLen]; omega)
      refine .of_run ⟨.inr ⟨hl, .inr ⟨w.heap.size, grownCap w m 0 e, _, rfl, Nat.le_refl _, heap_alloc_new w.drew _, hcap2, hcm, ?_, ?_⟩⟩, ⟨Nat.le_succ _, rfl, rfl, rfl, by simp, fun k hk _ => (by apply heap_alloc_old; exact hk)⟩⟩ (call hrun)
      · simp only [Array.size_append, List.size_toArray, List.length_nil, size_zeroCells, hzs, hl, Nat.zero_add, ← Nat.add_mul]
        congr 1; omega
      · simp only [Array.toList_append, List.append_assoc, List.nil_append]
        rw [List.take_append_of_le_length (by rw [hl]; exact Nat.le_refl _), ← hl, List.take_length]
theorem OpV.slice1' {T : Tab} (hT : T.Ok P) {t e : TypeId} {sz : Nat} {ag : Bool} {s bb : Nat} {z : List Value} {a u : Bool} {x : Operand} {low : Option Operand} {b o len cap : Nat} (lo : Nat)
    (ht : T.get t = some ⟨.slc sz ag e, s, bb, z, a, u⟩) (hx : evO env x = some (.slice (some ⟨b, o, none⟩) len cap)) (hl : Bnd env low 0 lo) (h1 : lo ≤ len) (h2 : len ≤ cap) (h3 : lo < cap) :
    OpV P env w ⟨dst, .slice t x low none none, ty, pos, after, guard⟩ (.slice (some ⟨b, o + lo * sz, none⟩) (len - lo) (cap - lo)) :=
  OpV.sliceSq hT ht hx hl .none h1 h2 (offOf_lt h3) rfl rfl
theorem OpE.build0 {T : Tab} (hT : T.Ok P) (t e : TypeId) {sz : Nat} {ag : Bool} {s b : Nat} {z : List Value} {a u : Bool} {ie : TI} (ht : T.get t = some ⟨.slc sz ag e, s, b, z, a, u⟩) (he : T.get e = some ie) (hz : ie.zero.length = sz) :
    OpE P env w ⟨dst, .buildSlice t 0 #[], ty, pos, after, guard⟩ (fun v w' => (∃ B, v = .slice (some ⟨B, 0, none⟩) 0 0) ∧ Ext w w') fun _ _ => False := by
  refine OpE.mono (OpE.buildSl (w := w) (env := env) hT [] ht he hz (by simp [Nat.ble]) rfl rfl (by simp)) ?_ fun _ _ h => h
  rintro v w' ⟨B, h, a⟩; exact ⟨⟨B, h⟩, a.ext⟩
end
end Go.Rn
end
section
/- Deeds: all, formed, bytes.Compare. -/
namespace Go.Dee
open Go.Rn Go.RowKit Go.Rec Go.Sha Go.Sg
def cmpG (x y : Dg) : Int := Lib.compareBytes x.1 y.1
theorem cmpG_lt {x y : Dg} : cmpG x y < 0 ↔ lessG x y = true := cmpB_lt (x.2.trans y.2.symm)
theorem dg_sl {w : World} {b o : Nat} {x : Dg} (h : Row w b o (digC x)) : IsSl w 1 (.slice (some ⟨b, o, none⟩) 32 32) 32 (bytesV x.1) := .row (by rw [digC_eq] at h; exact h) (by rw [bytesV_length, x.2]) (Nat.le_refl _)
def boolC (m : Bool) : List Value := [.bool m]
theorem encBo : EncOk boolC 1 := ⟨fun _ => rfl, fun _ => rfl, by decide⟩
abbrev LBo (w : World) (v : Value) (l : List Bool) : Prop := IsL w boolC 1 v l
section
variable {P : Program} {w : World} {env : Env} {dst : Option Tmp} {ty : TypeId} {pos : String} {after : Array Edge} {guard : Option (Nat × Bool)}
theorem beq_dg (a b : Dg) : (a.1 == b.1) = (a == b) := by
  rw [Bool.eq_iff_iff, beq_iff_eq, beq_iff_eq]
  exact ⟨Subtype.ext, fun h => by rw [h]⟩
theorem OpV.eqDg {t e u : TypeId} (h : BytesArr P t e 32) {x y : Operand} {a b : Dg} (hx : evO env x = some (.agg (digC a).toArray)) (hy : evO env y = some (.agg (digC b).toArray)) :
    OpV P env w ⟨dst, .binOp .eql t x y u, ty, pos, after, guard⟩ (.bool (a == b)) := by
  rw [digV_eq] at hx hy
  rw [← beq_dg]
  exact OpV.eqBytes h hx hy a.2 b.2
theorem OpV.neDg {t e u : TypeId} (h : BytesArr P t e 32) {x y : Operand} {a b : Dg} (hx : evO env x = some (.agg (digC a).toArray)) (hy : evO env y = some (.agg (digC b).toArray)) :
    OpV P env w ⟨dst, .binOp .neq t x y u, ty, pos, after, guard⟩ (.bool (!(a == b))) := by
  rw [digV_eq] at hx hy
  rw [← beq_dg]
  exact OpV.neBytes h hx hy a.2 b.2
end
theorem incG_drop {l : List Dg} : ∀ {i : Nat} {a b : Dg}, l[i]? = some a → l[i + 1]? = some b → incG (l.drop i) = (lessG a b && incG (l.drop (i + 1))) := by
  intro i a b ha hb
  obtain ⟨h1, rfl⟩ := List.getElem?_eq_some_iff.1 ha
  obtain ⟨h2, rfl⟩ := List.getElem?_eq_some_iff.1 hb
  rw [List.drop_eq_getElem_cons h1, List.drop_eq_getElem_cons h2]
  rfl
theorem incG_end {l : List Dg} {i : Nat} (h : l.length ≤ i + 1) : incG (l.drop i) = true := by
  have : (l.drop i).length ≤ 1 := by rw [List.length_drop]; omega
  rcases hl : l.drop i with _ | ⟨a, _ | ⟨b, r⟩⟩
  · rfl
  · rfl
  · rw [hl] at this; simp at this
end Go.Dee
namespace Go.Sg
open Go.Rn Go.Proofs Go.Dee Go.Rec Go.RowKit Go.Sha
attribute [local irreducible] Go.Rn.RetsX Go.Rn.RunLN Go.Rn.AsyN Go.Rn.RunL Go.Rn.RunE Go.Rn.Asy Go.Rn.OpV Go.Rn.OpE Go.Rn.ExecE
theorem guardDg : Tryd.prog.eqGuardType Tryd.prog.depth 23 = false := by kernel_rfl
theorem bytesArr : BytesArr Tryd.prog 23 5 32 where
  und := Tryd.underlying23
  elem := Tryd.underlying5
  cells := by kernel_rfl
  one := by kernel_rfl
  guard := guardDg
set_option maxRecDepth 4000 in
theorem bcompare_ok (x y : Dg) (b o b' o' : Nat) (w : World) (h : Row w b o (digC x)) (h' : Row w b' o' (digC y)) : Rets Tryd.prog 52 [.slice (some ⟨b, o, none⟩) 32 32, .slice (some ⟨b', o', none⟩) 32 32] w fun r w' => r = .int .i64 (cmpG x y) ∧ Ext w w' := by
  have hx := dg_sl h
  have hy := dg_sl h'
  have hc : (callFunc 73 #[.slice (some ⟨b, o, none⟩) 32 32, .slice (some ⟨b', o', none⟩) 32 32]).run Tryd.prog w = .ok (.value (.int .i64 (cmpG x y))) w := by
    rw [run_callFunc_extern Tryd.func73 (by kernel_rfl) (by kernel_rfl) (by kernel_rfl) (e := Extern.BytealgCompare.compare) (by kernel_rfl)]
    have e1 : IsSl w 1 (.slice (some ⟨b, o, none⟩) 32 32) x.1.length (bytesV x.1) := by rw [x.2]; exact hx
    have e2 : IsSl w 1 (.slice (some ⟨b', o', none⟩) 32 32) y.1.length (bytesV y.1) := by rw [y.2]; exact hy
    rw [run_cmpBytes e1 e2]; rfl
  refine RetsX.of (nt := 8) Tryd.func52 (by kernel_rfl) rfl rfl (by simp) (by simp only [argEnv]; rfl) ?_
  repeat' (first | (with_reducible refine RunLN.chk ?_; refine RunLN.int (by (first | (refine wr_i64 ?_ ?_; omega; omega) | (refine wm_i64 ?_; omega) | (refine wq_i64 ?_ ?_ ?_; omega; omega; omega) | rfl)) ?_) | refine RunLN.any ?_ | refine RunL.ev Tryd.tOk rfl rfl rfl ?_ | refine RunE.seq ?_ | refine RunE.region ?_ | refine RunL.nil ?_)
  refine RunL.evV rfl rfl rfl (OpV.callX rfl hc) ?_
  repeat' (first | (with_reducible refine RunLN.chk ?_; refine RunLN.int (by (first | (refine wr_i64 ?_ ?_; omega; omega) | (refine wm_i64 ?_; omega) | (refine wq_i64 ?_ ?_ ?_; omega; omega; omega) | rfl)) ?_) | refine RunL.ev Tryd.tOk rfl rfl rfl ?_ | refine RunL.nil ?_)
  exact RunE.retFn Tryd.func52 (.tmp rfl .nil) ⟨rfl, ExtB.refl _ _⟩
theorem dall_ok (l : List Bool) (v : Value) (w : World) (hv : LBo w v l) (hl : l.length ≤ 100) : Rets Tryd.prog 53 [v] w fun r w' => r = .bool (l.all id) ∧ Ext w w' := by
  refine RetsX.of (nt := 14) Tryd.func53 (by kernel_rfl) rfl rfl (by simp) (by simp only [argEnv]; rfl) ?_
  have X := ExtB.refl (fun _ => False) w
  repeat' (first | with_reducible refine RunLN.boolF rfl ?_ | (with_reducible refine RunLN.chk ?_; refine RunLN.int (by (first | (refine wr_i64 ?_ ?_; omega; omega) | (refine wm_i64 ?_; omega) | (refine wq_i64 ?_ ?_ ?_; omega; omega; omega) | rfl)) ?_) | refine RunLN.any ?_ | refine RunL.ev Tryd.tOk rfl rfl rfl ?_ | refine RunL.evV rfl rfl rfl (OpV.lenSl Tryd.tOk rfl rfl hv) ?_ | refine RunE.seq ?_ | refine RunE.region ?_ | refine RunL.nil ?_ | refine RunE.block ?_)
  refine RunE.loop (ι := Nat) (fun s => [(0, v), (2, .bool false), (5, v), (6, .int .i64 (l.length : Int)), (7, .int .i64 (s : Int))])
    (fun s w' => s ≤ l.length ∧ l.all id = (l.drop s).all id ∧ w' = w) (fun s => l.length - s) 0 (by repeat (first | exact Sub.nil _ | refine Sub.cons rfl ?_)) ⟨Nat.zero_le _, rfl, rfl⟩ ?_
  rintro i _ ⟨hi, hall, rfl⟩ again
  by_cases hlt : i < l.length
  · obtain ⟨b1, o1, c1, rfl, hr1, -⟩ := isL_held hv hlt
    obtain ⟨x, hx⟩ : ∃ x, l[i]? = some x := ⟨_, List.getElem?_eq_getElem hlt⟩
    have hrx := flat_row encBo hr1 hx
    have hd : l.drop i = x :: l.drop (i + 1) := by
      obtain ⟨hi, e⟩ := List.getElem?_eq_some_iff.1 hx
      rw [← e, List.drop_eq_getElem_cons hi]
    rw [hd, List.all_cons] at hall
    cases x with
    | true =>
      repeat' (first | with_reducible refine RunLN.boolT rfl ?_ | with_reducible refine RunLN.boolF rfl ?_ | (with_reducible refine RunLN.decT ?_ ?_; focus omega) | (with_reducible refine RunLN.chk ?_; refine RunLN.int (by (first | (refine wr_i64 ?_ ?_; omega; omega) | (refine wm_i64 ?_; omega) | (refine wq_i64 ?_ ?_ ?_; omega; omega; omega) | rfl)) ?_) | refine RunLN.any ?_ | refine RunL.ev Tryd.tOk rfl rfl rfl ?_ | refine RunL.evV rfl rfl rfl (OpV.load1 Tryd.tOk rfl rfl rfl ((hrx.up X) 0 _ rfl)) ?_ | refine RunL.evV rfl rfl rfl (OpV.indexS Tryd.tOk _ rfl rfl rfl rfl (by omega)) ?_ | refine RunE.condT rfl rfl ?_ | refine RunE.condF rfl rfl ?_ | refine RunE.seq ?_ | refine RunE.region ?_ | refine RunL.nil ?_ | refine RunE.block ?_ | refine RunE.inBlock ?_ | refine RunE.skip ?_)
      exact RunE.weaken (by repeat (first | exact Sub.nil _ | refine Sub.cons rfl ?_)) (again (i + 1) _ (by omega) ⟨by omega, by rw [hall]; rfl, rfl⟩)
    | false =>
      repeat' (first | with_reducible refine RunLN.boolT rfl ?_ | with_reducible refine RunLN.boolF rfl ?_ | (with_reducible refine RunLN.decT ?_ ?_; focus omega) | refine RunLN.any ?_ | refine RunL.ev Tryd.tOk rfl rfl rfl ?_ | refine RunL.evV rfl rfl rfl (OpV.load1 Tryd.tOk rfl rfl rfl ((hrx.up X) 0 _ rfl)) ?_ | refine RunL.evV rfl rfl rfl (OpV.indexS Tryd.tOk _ rfl rfl rfl rfl (by omega)) ?_ | refine RunE.condT rfl rfl ?_ | refine RunE.seq ?_ | refine RunE.region ?_ | refine RunL.nil ?_ | refine RunE.block ?_ | refine RunE.skip ?_)
      exact RunE.retFn Tryd.func53 (.tmp rfl .nil) ⟨by rw [hall]; rfl, X⟩
  · obtain rfl : i = l.length := by omega
    rw [List.drop_length] at hall
    clear again
    repeat' (first | with_reducible refine RunLN.boolT rfl ?_ | (with_reducible refine RunLN.decF ?_ ?_; focus omega) | refine RunL.ev Tryd.tOk rfl rfl rfl ?_ | refine RunE.condF rfl rfl ?_ | refine RunE.seq ?_ | refine RunE.region ?_ | refine RunL.nil ?_ | refine RunE.exit rfl ?_)
    exact RunE.retFn Tryd.func53 (.tmp rfl .nil) ⟨by rw [hall]; rfl, X⟩
set_option maxRecDepth 4000 in
set_option maxHeartbeats 4000000 in
theorem dformed_ok (d : Deed) (u v : Value) (w : World) (hs : LDg w u d.seen) (hb : LBy w v d.data) (hl : d.seen.length < 9223372036854775808) (hl' : d.data.length < 9223372036854775808) : Rets Tryd.prog 27 [.agg (dCells d u v).toArray] w fun r w' => r = .bool (formedD d) ∧ Ext w w' := by
  refine RetsX.of (nt := 61) Tryd.func27 (by kernel_rfl) rfl rfl (by simp) (by simp only [argEnv]; rfl) ?_
  have X := ExtB.refl (fun _ => False) w
  repeat' (first | refine RunE.seq ?_ | refine RunE.region ?_)
  refine RunL.box rfl rfl rfl fun B1 w1_ a_ => ?_
  have Z1 : Blk w1_ B1 (dCells d u v) 29 := a_.at_
  have gB1 := a_.ge X
  replace X := X.trans a_.ext
  clear a_
  repeat' (first | with_reducible refine RunLN.boolF rfl ?_ | (with_reducible refine RunLN.chk ?_; refine RunLN.int (by (first | (refine wr_i64 ?_ ?_; omega; omega) | (refine wm_i64 ?_; omega) | (refine wq_i64 ?_ ?_ ?_; omega; omega; omega) | rfl)) ?_) | refine RunL.ev Tryd.tOk rfl rfl rfl ?_ | refine RunE.seq ?_ | refine RunE.region ?_ | refine RunL.nil ?_ | refine RunE.block ?_)
  refine RunE.loop (ι := Nat) (fun s => [(0, .agg (dCells d u v).toArray), (1, .pointer (some ⟨B1, 0, none⟩)), (2, .bool false), (3, .int .i64 ((s : Int) + 1))])
    (fun s w' => (s < d.seen.length ∨ s = 0) ∧ incG d.seen = incG (d.seen.drop s) ∧ Ext w w' ∧ Blk w' B1 (dCells d u v) 29) (fun s => d.seen.length - s) 0 (by repeat (first | exact Sub.nil _ | refine Sub.cons rfl ?_)) ⟨.inr rfl, rfl, X, Z1⟩ ?_
  clear X Z1
  rintro i w3 ⟨hi, hinc, X, Z1⟩ again
  by_cases hlt : i + 1 < d.seen.length
  · obtain ⟨a, ha⟩ : ∃ a, d.seen[i]? = some a := ⟨_, List.getElem?_eq_getElem (by omega)⟩
    obtain ⟨b, hb'⟩ : ∃ b, d.seen[i + 1]? = some b := ⟨_, List.getElem?_eq_getElem hlt⟩
    rw [incG_drop ha hb'] at hinc
    obtain ⟨b1, o1, c1, rfl, hr1, -⟩ := isL_held hs hlt
    have hra := flat_row encG (hr1.up X) ha
    have hrb := flat_row encG (hr1.up X) hb'
    repeat' (first | (with_reducible refine RunLN.decT ?_ ?_; focus omega) | (with_reducible refine RunLN.chk ?_; refine RunLN.int (by (first | (refine wr_i64 ?_ ?_; omega; omega) | (refine wm_i64 ?_; omega) | (refine wq_i64 ?_ ?_ ?_; omega; omega; omega) | rfl)) ?_) | refine RunLN.any ?_ | refine RunL.ev Tryd.tOk rfl rfl rfl ?_ | refine RunL.evV rfl rfl rfl (OpV.load1 Tryd.tOk rfl rfl rfl (Blk.cell Z1 rfl)) ?_ | refine RunE.condT rfl rfl ?_ | refine RunE.seq ?_ | refine RunE.region ?_ | refine RunL.nil ?_ | refine RunE.block ?_ | refine RunE.skip ?_)
    refine RunE.draw (fun _ => False) mix ?_
    intro wd_ Xd_
    cases hc : lessG a b with
    | true =>
      have hc' := cmpG_lt.2 hc
      repeat' (first | (with_reducible refine AsyN.decF ?_ ?_; focus omega) | (with_reducible refine AsyN.chk ?_; refine AsyN.int (by (first | (refine wr_i64 ?_ ?_; omega; omega) | (refine wm_i64 ?_; omega) | (refine wq_i64 ?_ ?_ ?_; omega; omega; omega) | rfl)) ?_) | refine AsyN.any ?_ | refine Asy.ev Tryd.tOk rfl rfl rfl ?_ | refine Asy.evV rfl rfl rfl rfl (fun _ X_ => OpV.load1 Tryd.tOk rfl rfl rfl (Blk.cell (Z1.up (Xd_.trans X_)) rfl)) ?_ | refine Asy.evV rfl rfl rfl rfl (fun _ X_ => OpV.indexS Tryd.tOk i rfl rfl rfl (by first | rfl | omega) (by omega)) ?_ | refine Asy.evV rfl rfl rfl rfl (fun _ X_ => OpV.indexS Tryd.tOk (i+1) rfl rfl rfl (by first | rfl | omega) (by omega)) ?_ | refine Asy.evV rfl rfl rfl rfl (fun _ X_ => (OpV.sliceAq Tryd.tOk rfl rfl .none .none (Nat.zero_le _) (Nat.le_refl _) rfl rfl rfl)) ?_ | refine Asy.callN rfl rfl rfl (fun _ X_ => (bcompare_ok a b _ _ _ _ _ (hra.up (Xd_.trans X_)) (hrb.up (Xd_.trans X_)))) ?_)
      refine Asy.end_ (by kernel_rfl) ?_
      intro we_ Xe_
      replace X := X.trans (Xd_.trans Xe_)
      replace Z1 := Z1.up (Xd_.trans Xe_)
      clear Xd_ Xe_
      repeat' (first | (with_reducible refine RunLN.chk ?_; refine RunLN.int (by (first | (refine wr_i64 ?_ ?_; omega; omega) | (refine wm_i64 ?_; omega) | (refine wq_i64 ?_ ?_ ?_; omega; omega; omega) | rfl)) ?_) | refine RunL.ev Tryd.tOk rfl rfl rfl ?_ | refine RunE.condF rfl rfl ?_ | refine RunE.region ?_ | refine RunL.nil ?_ | refine RunE.inBlock ?_ | refine RunE.skip ?_)
      refine RunE.weaken (by repeat (first | exact Sub.nil _ | refine Sub.cons rfl ?_)) (again (i + 1) _ (by omega) ⟨.inl (by omega), by rw [hinc, hc, Bool.true_and], X, Z1⟩)
    | false =>
      have hc' : ¬ cmpG a b < 0 := fun h => by rw [cmpG_lt.1 h] at hc; cases hc
      repeat' (first | (with_reducible refine AsyN.decT ?_ ?_; focus omega) | (with_reducible refine AsyN.chk ?_; refine AsyN.int (by (first | (refine wr_i64 ?_ ?_; omega; omega) | (refine wm_i64 ?_; omega) | (refine wq_i64 ?_ ?_ ?_; omega; omega; omega) | rfl)) ?_) | refine AsyN.any ?_ | refine Asy.ev Tryd.tOk rfl rfl rfl ?_ | refine Asy.evV rfl rfl rfl rfl (fun _ X_ => OpV.load1 Tryd.tOk rfl rfl rfl (Blk.cell (Z1.up (Xd_.trans X_)) rfl)) ?_ | refine Asy.evV rfl rfl rfl rfl (fun _ X_ => OpV.indexS Tryd.tOk i rfl rfl rfl (by first | rfl | omega) (by omega)) ?_ | refine Asy.evV rfl rfl rfl rfl (fun _ X_ => OpV.indexS Tryd.tOk (i+1) rfl rfl rfl (by first | rfl | omega) (by omega)) ?_ | refine Asy.evV rfl rfl rfl rfl (fun _ X_ => (OpV.sliceAq Tryd.tOk rfl rfl .none .none (Nat.zero_le _) (Nat.le_refl _) rfl rfl rfl)) ?_ | refine Asy.callN rfl rfl rfl (fun _ X_ => (bcompare_ok a b _ _ _ _ _ (hra.up (Xd_.trans X_)) (hrb.up (Xd_.trans X_)))) ?_)
      refine Asy.end_ (by kernel_rfl) ?_
      intro we_ Xe_
      replace X := X.trans (Xd_.trans Xe_)
      clear Xd_ Xe_
      have hf : formedD d = false := by unfold formedD; rw [hinc, hc]; simp
      repeat' (first | with_reducible refine RunLN.boolF rfl ?_ | refine RunL.ev Tryd.tOk rfl rfl rfl ?_ | refine RunE.condT rfl rfl ?_ | refine RunE.seq ?_ | refine RunE.region ?_ | refine RunL.nil ?_)
      exact RunE.retFn Tryd.func27 (.tmp rfl .nil) ⟨by rw [hf]; rfl, X⟩
  · rw [incG_end (by omega)] at hinc
    clear again
    repeat' (first | (with_reducible refine RunLN.decF ?_ ?_; focus omega) | (with_reducible refine RunLN.chk ?_; refine RunLN.int (by (first | (refine wr_i64 ?_ ?_; omega; omega) | (refine wm_i64 ?_; omega) | (refine wq_i64 ?_ ?_ ?_; omega; omega; omega) | rfl)) ?_) | refine RunLN.any ?_ | refine RunL.ev Tryd.tOk rfl rfl rfl ?_ | refine RunL.evV rfl rfl rfl (OpV.load1 Tryd.tOk rfl rfl rfl (Blk.cell Z1 rfl)) ?_ | refine RunL.evV rfl rfl rfl (OpV.lenSl Tryd.tOk rfl rfl hs) ?_ | refine RunE.condF rfl rfl ?_ | refine RunE.seq ?_ | refine RunE.region ?_ | refine RunL.nil ?_ | refine RunE.exit rfl ?_)
    have hp : ∀ (m : Bool), firstD d = m → ([decide (d.person ≥ 0), decide (d.person < 64), decide (d.no ≥ 0), decide (d.no < 4096), decide (d.at_ ≥ 0), decide (d.at_ < 1099511627776), decide ((d.seen.length : Int) ≤ 64), decide ((d.data.length : Int) ≤ 65536), m].all id) = formedD d := by
      intro m hm
      unfold formedD numsD
      rw [hinc, hm, Bool.and_true, Bool.eq_iff_iff]
      simp only [List.all_cons, List.all_nil, id, Bool.and_eq_true, decide_eq_true_eq, Bool.and_true]
      cases m <;> simp <;> omega
    by_cases hno : 0 < d.no
    · have hf : firstD d = true := by unfold firstD; rw [decide_eq_true hno]; rfl
      have hq : decide (d.no > 0) = true := decide_eq_true hno
      refine RunE.draw (fun _ => False) mix ?_
      intro wd_ Xd_
      repeat' (first | with_reducible refine AsyN.boolT rfl ?_ | refine AsyN.boolT (by assumption) ?_ | (with_reducible refine AsyN.chk ?_; refine AsyN.int (by (first | (refine wr_i64 ?_ ?_; omega; omega) | (refine wm_i64 ?_; omega) | (refine wq_i64 ?_ ?_ ?_; omega; omega; omega) | rfl)) ?_) | refine AsyN.any ?_ | refine Asy.ev Tryd.tOk rfl rfl rfl ?_ | refine Asy.unwantedD rfl rfl rfl ?_ | refine Asy.evV rfl rfl rfl rfl (fun _ X_ => OpV.load1 Tryd.tOk rfl rfl rfl (Blk.cell (Z1.up (Xd_.trans X_)) rfl)) ?_ | refine Asy.evV rfl rfl rfl rfl (fun _ X_ => OpV.lenSl Tryd.tOk rfl rfl hs) ?_ | refine Asy.evV rfl rfl rfl rfl (fun _ X_ => OpV.lenSl Tryd.tOk rfl rfl hb) ?_)
      refine Asy.end_ (by kernel_rfl) ?_
      intro we_ Xe_
      replace X := X.trans (Xd_.trans Xe_)
      clear Xd_ Xe_ Z1
      refine RunL.ex rfl rfl rfl (OpE.buildSl Tryd.tOk [.bool (decide (d.person ≥ 0)), .bool (decide (d.person < 64)), .bool (decide (d.no ≥ 0)), .bool (decide (d.no < 4096)), .bool (decide (d.at_ ≥ 0)), .bool (decide (d.at_ < 1099511627776)), .bool (decide ((d.seen.length : Int) ≤ 64)), .bool (decide ((d.data.length : Int) ≤ 65536)), .bool true] rfl rfl rfl rfl rfl rfl (by simp [Value.cells])) ?_
      rintro _ w_ ⟨B_, rfl, a_⟩
      have k1 : LBo w_ (.slice (some ⟨B_, 0, none⟩) 9 9) [decide (d.person ≥ 0), decide (d.person < 64), decide (d.no ≥ 0), decide (d.no < 4096), decide (d.at_ ≥ 0), decide (d.at_ < 1099511627776), decide ((d.seen.length : Int) ≤ 64), decide ((d.data.length : Int) ≤ 65536), true] := (isSl_added (n := 9) (sz := 1) a_ rfl)
      replace X := X.trans a_.ext
      clear a_
      skip
      refine RunL.call rfl rfl rfl (dall_ok _ _ _ k1 (by simp)) ?_
      rintro _ _ ⟨rfl, Xa_⟩
      replace X := X.trans Xa_
      clear Xa_
      rw [hp _ hf]
      repeat' (first | refine RunLN.any ?_ | refine RunL.ev Tryd.tOk rfl rfl rfl ?_ | refine RunL.nil ?_)
      exact RunE.retFn Tryd.func27 (.tmp rfl .nil) ⟨rfl, X⟩
    · have hf : firstD d = (d.prev == zeroG) := by unfold firstD; rw [decide_eq_false hno]; rfl
      have hq : decide (d.no > 0) = false := decide_eq_false hno
      refine RunE.draw (fun _ => False) mix ?_
      intro wd_ Xd_
      repeat' (first | with_reducible refine AsyN.boolF rfl ?_ | refine AsyN.boolF (by assumption) ?_ | (with_reducible refine AsyN.chk ?_; refine AsyN.int (by (first | (refine wr_i64 ?_ ?_; omega; omega) | (refine wm_i64 ?_; omega) | (refine wq_i64 ?_ ?_ ?_; omega; omega; omega) | rfl)) ?_) | refine AsyN.any ?_ | refine Asy.ev Tryd.tOk rfl rfl rfl ?_ | refine Asy.evV rfl rfl rfl rfl (fun _ X_ => OpV.load1 Tryd.tOk rfl rfl rfl (Blk.cell (Z1.up (Xd_.trans X_)) rfl)) ?_ | refine Asy.evV rfl rfl rfl rfl (fun _ X_ => OpV.lenSl Tryd.tOk rfl rfl hs) ?_ | refine Asy.evV rfl rfl rfl rfl (fun _ X_ => OpV.lenSl Tryd.tOk rfl rfl hb) ?_ | refine Asy.evV rfl rfl rfl rfl (fun _ X_ => OpV.loadN Tryd.tOk rfl rfl rfl rfl ((row_prev (Blk.row Z1)).up (Xd_.trans X_))) ?_ | refine Asy.evV rfl rfl rfl rfl (fun _ X_ => (OpV.eqDg (a := d.prev) (b := zeroG) bytesArr rfl rfl)) ?_)
      refine Asy.end_ (by kernel_rfl) ?_
      intro we_ Xe_
      replace X := X.trans (Xd_.trans Xe_)
      clear Xd_ Xe_ Z1
      refine RunL.ex rfl rfl rfl (OpE.buildSl Tryd.tOk [.bool (decide (d.person ≥ 0)), .bool (decide (d.person < 64)), .bool (decide (d.no ≥ 0)), .bool (decide (d.no < 4096)), .bool (decide (d.at_ ≥ 0)), .bool (decide (d.at_ < 1099511627776)), .bool (decide ((d.seen.length : Int) ≤ 64)), .bool (decide ((d.data.length : Int) ≤ 65536)), .bool (d.prev == zeroG)] rfl rfl rfl rfl rfl rfl (by simp [Value.cells])) ?_
      rintro _ w_ ⟨B_, rfl, a_⟩
      have k1 : LBo w_ (.slice (some ⟨B_, 0, none⟩) 9 9) [decide (d.person ≥ 0), decide (d.person < 64), decide (d.no ≥ 0), decide (d.no < 4096), decide (d.at_ ≥ 0), decide (d.at_ < 1099511627776), decide ((d.seen.length : Int) ≤ 64), decide ((d.data.length : Int) ≤ 65536), d.prev == zeroG] := (isSl_added (n := 9) (sz := 1) a_ rfl)
      replace X := X.trans a_.ext
      clear a_
      skip
      refine RunL.call rfl rfl rfl (dall_ok _ _ _ k1 (by simp)) ?_
      rintro _ _ ⟨rfl, Xa_⟩
      replace X := X.trans Xa_
      clear Xa_
      rw [hp _ hf]
      repeat' (first | refine RunLN.any ?_ | refine RunL.ev Tryd.tOk rfl rfl rfl ?_ | refine RunL.nil ?_)
      exact RunE.retFn Tryd.func27 (.tmp rfl .nil) ⟨rfl, X⟩
end Go.Sg
end
section
/- A variable of many cells that is written whole. -/
namespace Go.Rn
open Go.RowKit
theorem setAt_app : ∀ (vs a b : List Value), b.length = vs.length → setAt (a ++ b) a.length vs = a ++ vs
  | [], a, b, h => by
    have : b = [] := List.length_eq_zero_iff.1 h
    subst this; rfl
  | v :: r, a, [], h => by simp at h
  | v :: r, a, x :: b, h => by
    have e : (a ++ x :: b).set a.length v = (a ++ [v]) ++ b := by
      rw [List.set_append_right _ _ (Nat.le_refl _), Nat.sub_self]; simp
    show setAt ((a ++ x :: b).set a.length v) (a.length + 1) r = _
    have e2 : a.length + 1 = (a ++ [v]).length := by simp
    rw [e, e2, setAt_app r (a ++ [v]) b (by simpa using h)]
    simp
theorem setAt_whole {cs vs : List Value} (h : cs.length = vs.length) : setAt cs 0 vs = vs := setAt_app vs [] cs h
section
variable {P : Program} {c : Ctx} {k : List Item} {Q : Out → Act → World → Prop} {w : World} {n : Nat} {ds : List Deferred} {env : Env}
variable {ops : Array Oper} {d : Tmp} {op : Op} {ty : TypeId} {pos : String} {after : Array Edge} {guard : Option (Nat × Bool)} {rest : List Oper}
theorem RunL.storeW {T : Tab} (hT : T.Ok P) {t bt : TypeId} {i : TI} {x y : Operand} {b : Nat} {cs vs : List Value}
    (hw : wantE ops.toList env ⟨none, .store t x y, ty, pos, after, guard⟩ = some true) (hx : evO env x = some (.pointer (some ⟨b, 0, none⟩))) (hy : evO env y = some (.agg vs.toArray))
    (ht : T.get t = some i) (hsz : vs.length = i.size) (hb : Blk w b cs bt) (hlen : cs.length = vs.length) (hp : vs.all plainV = true)
    (h : ∀ w', Turned w w' b (.cells vs.toArray bt (0, 0)) → RunL P c n ds ops rest k Q env w') :
    RunL P c n ds ops (⟨none, .store t x y, ty, pos, after, guard⟩ :: rest) k Q env w := by
  refine RunL.store hT hw hx hy ht hsz hb ?_ hp fun w' t' => ?_
  · show Nat.ble (0 + vs.length) cs.length = true
    rw [Nat.zero_add, hlen]; rw [Nat.ble_eq]; exact Nat.le_refl _
  · have e : setAt cs 0 (Value.agg vs.toArray).cells.toList = vs := setAt_whole hlen
    rw [e] at t'
    exact h w' t'
end
section
variable {P : Program} {c : Ctx} {k : List Item} {Q : Out → Act → World → Prop} {w0 : World} {n : Nat} {ds : List Deferred} {env : Env} {S : Nat → Prop} {sats pres : List (Nat × Pred)} {ph : Option (Option Nat × Pred)} {mu : List Bool}
variable {l : List Oper} {d : Tmp} {op : Op} {ty : TypeId} {pos : String} {after : Array Edge} {guard : Option (Nat × Bool)} {rest : List Oper}
theorem Asy.sat1P {T : Tab} (hT : T.Ok P) (i : Nat) {t : Nat} {U : Pred} (V : Pred) (hi : sats[i]? = some (t, U)) (hl : (Oper.looksAt l.toArray ⟨some d, op, ty, pos, after, guard⟩).contains t = true)
    (hw : wantE l env ⟨some d, op, ty, pos, after, guard⟩ = some true) (hdst : Nat.blt d n = true) (hd : isDefer op = false) (hs : isSel op = false)
    (hV : ∀ v w' w'', ExtB S w0 w' → ExtB S w' w'' → V v w' → V v w'')
    (h : ∀ w' x, ExtB S w0 w' → U x w' → ∃ y, evalOp T ((t, x) :: env) op = some y ∧ V y w')
    (h' : Asy P c n ds S w0 l k Q rest ⟨env.del (some d), (d, V) :: sats, ph, false :: mu, pres⟩) : Asy P c n ds S w0 l k Q (⟨some d, op, ty, pos, after, guard⟩ :: rest) ⟨env, sats, ph, mu, pres⟩ :=
  .sat1 i V hi hl hw hdst hd hs hV (fun w' x s hx => by
    obtain ⟨y, h1, h2⟩ := h w' x s hx
    refine OpE.mono (OpV.e (evalOp_v (o := ⟨some d, op, ty, pos, after, guard⟩) hT h1)) ?_ fun _ _ h => h
    rintro _ _ ⟨rfl, rfl⟩
    exact ⟨ExtB.refl _ _, h2⟩) h'
theorem Asy.val1P {T : Tab} (hT : T.Ok P) (i : Nat) {t : Nat} {U : Pred} {v : Value} (hi : sats[i]? = some (t, U)) (hl : (Oper.looksAt l.toArray ⟨some d, op, ty, pos, after, guard⟩).contains t = true)
    (hw : wantE l env ⟨some d, op, ty, pos, after, guard⟩ = some true) (hdst : Nat.blt d n = true) (hd : isDefer op = false) (hs : isSel op = false)
    (h : ∀ w' x, ExtB S w0 w' → U x w' → evalOp T ((t, x) :: env) op = some v)
    (h' : Asy P c n ds S w0 l k Q rest ⟨(d, v) :: env, sats, ph, false :: mu, pres⟩) : Asy P c n ds S w0 l k Q (⟨some d, op, ty, pos, after, guard⟩ :: rest) ⟨env, sats, ph, mu, pres⟩ :=
  .val1 i hi hl hw hdst hd hs (fun w' x s hx => by
    refine OpE.mono (OpV.e (evalOp_v (o := ⟨some d, op, ty, pos, after, guard⟩) hT (h w' x s hx))) ?_ fun _ _ h => h
    rintro _ _ ⟨rfl, rfl⟩
    exact ⟨rfl, ExtB.refl _ _⟩) h'
end
end Go.Rn
namespace Go
open Go.Rn
theorem World.ownsRow.up {w w' : World} {base : Nat} {e : TypeId} {sz n : Nat} {v : Value} {xs : List Value} (h : w.ownsRow base e sz v n xs) (x : Ext w w') : w'.ownsRow base e sz v n xs := ownsRow_ext h x fun _ _ h => h
end Go
end
section
/- Deeds: hash, number, list, text. -/
namespace Go.Dee
open Go.Rn Go.RowKit Go.Rec Go.Sha Go.Sg Go.Cod
@[reducible] def rowX (s : List UInt8) : List Value := [.int .i64 2, .int .i64 0, .string (strOf s), .slice none 0 0]
@[reducible] def rowT (x : Dg) : List Value := rowX x.1
@[reducible] def rowN (n : Int) : List Value := [.int .i64 1, .int .i64 n, .string ⟨#[]⟩, .slice none 0 0]
@[reducible] def rowL (v : Value) : List Value := [.int .i64 3, .int .i64 0, .string ⟨#[]⟩, v]
theorem encT' : EncOk rowT 4 := ⟨fun _ => rfl, fun _ => rfl, by decide⟩
abbrev LTx (w : World) (v : Value) (l : List Dg) : Prop := IsL w rowT 4 v l
theorem flatT : ∀ l : List Dg, flat rowT l = ((l.map fun x => CV.text x.1).map rowOf).flatten
  | [] => rfl
  | x :: l => by rw [flat_cons, flatT l]; rfl
theorem texts_in {w : World} {l : List Dg} {v : Value} (hl : l.length ≤ 100) (hv : LTx w v l) : (CV.list (l.map fun x => CV.text x.1)).In w (rowL v) := by
  refine ⟨by simp; omega, _, _, rfl, ?_, ins_rows _ fun c hc => ?_⟩
  · have : IsSl w 4 v l.length (flat rowT l) := hv
    rw [flatT] at this
    simpa using this
  · obtain ⟨x, hx, rfl⟩ := List.mem_map.1 hc
    exact ⟨by rw [x.2]; decide, _, rfl⟩
theorem deed_in {w : World} {d : Deed} {vs v6 : Value} (hf : formedD d = true) (hs : LTx w vs d.seen) (h6 : IsSl w 4 v6 6 (rowN d.person ++ rowN d.no ++ rowN d.at_ ++ rowT d.prev ++ rowL vs ++ rowX d.data)) : (cvD d).In w (rowL v6) := by
  obtain ⟨⟨p0, p1, n0, n1, t0, t1, l0, l1⟩, -⟩ := formedD_inv hf
  refine ⟨by simp, v6, [rowN d.person, rowN d.no, rowN d.at_, rowT d.prev, rowL vs, rowX d.data], rfl, ?_, ?_⟩
  · simpa using h6
  · exact ⟨_, _, rfl, ⟨by omega, _, rfl⟩, _, _, rfl, ⟨by omega, _, rfl⟩, _, _, rfl, ⟨by omega, _, rfl⟩, _, _, rfl, ⟨by rw [d.prev.2]; decide, _, rfl⟩, _, _, rfl, texts_in (by omega) hs, _, _, rfl, ⟨by omega, _, rfl⟩, rfl⟩
theorem deed_depth (d : Deed) : (cvD d).depth ≤ 16 := by
  unfold cvD
  have : depths (d.seen.map fun x => CV.text x.1) = 0 := depths_zero _ fun c hc => by
    obtain ⟨x, -, rfl⟩ := List.mem_map.1 hc; rfl
  simp only [CV.depth, depths, this]; decide
theorem encs_le {l : List CV} {k : Nat} (h : ∀ c ∈ l, c.enc.length ≤ k) : (encs l).length ≤ l.length * k := by
  induction l with
  | nil => simp [encs]
  | cons c l ih =>
    have h1 := h c List.mem_cons_self
    have h2 := ih fun c hc => h c (List.mem_cons_of_mem _ hc)
    simp only [encs, List.length_append, List.length_cons, Nat.add_mul]
    omega
theorem deed_enc {d : Deed} (hf : formedD d = true) : (cvD d).enc.length ≤ 100000 := by
  obtain ⟨⟨p0, p1, n0, n1, t0, t1, l0, l1⟩, -⟩ := formedD_inv hf
  have h1 := num_le _ (zig_lt d.person (by omega))
  have h2 := num_le _ (zig_lt d.no (by omega))
  have h3 := num_le _ (zig_lt d.at_ (by omega))
  have h4 := num_le d.data.length (by omega)
  have h5 := num_le d.seen.length (by omega)
  have h6 := num_le 32 (by omega)
  have h7 := num_le (1 + 1 + 1 + 1 + 1 + 1) (by omega)
  have h8 : (encs (d.seen.map fun x => CV.text x.1)).length ≤ (d.seen.map fun x => CV.text x.1).length * 100 := encs_le fun c hc => by
    obtain ⟨x, -, rfl⟩ := List.mem_map.1 hc
    simp only [CV.enc, List.length_cons, List.length_append]
    rw [x.2]; omega
  unfold cvD
  simp only [CV.enc, encs, List.length_cons, List.length_append, List.length_nil, List.length_map, Nat.zero_add, d.prev.2] at h8 ⊢
  omega
theorem text_len {d : Deed} (hf : formedD d = true) : (textD d).length ≤ 100000 := deed_enc hf
end Go.Dee
namespace Go.Sg
open Go.Rn Go.Proofs Go.Dee Go.Rec Go.RowKit Go.Sha Go.Cod
attribute [local irreducible] Go.Rn.RetsX Go.Rn.RunLN Go.Rn.AsyN Go.Rn.RunL Go.Rn.RunE Go.Rn.Asy Go.Rn.OpV Go.Rn.OpE Go.Rn.ExecE
def z4 : List Value := [.int .i64 0, .int .i64 0, .string ⟨#[]⟩, .slice none 0 0]
theorem dnumber_ok (n : Int) (w : World) : Rets Tryd.prog 57 [.int .i64 n] w fun r w' => r = .agg (rowN n).toArray ∧ Ext w w' := by
  refine RetsX.of (nt := 5) Tryd.func57 (by kernel_rfl) rfl rfl (by simp) (by simp only [argEnv]; rfl) ?_
  have X := ExtB.refl (fun _ => False) w
  repeat' (first | refine RunE.seq ?_ | refine RunE.region ?_)
  refine RunL.alloc Tryd.tOk rfl rfl rfl fun B2 w2_ a_ => ?_
  have Z2 : Blk w2_ B2 (z4) 57 := a_.at_
  have gB2 := a_.ge X
  replace X := X.trans a_.ext
  clear a_
  repeat' (first | (with_reducible refine RunLN.chk ?_; refine RunLN.int (by (first | (refine wr_i64 ?_ ?_; omega; omega) | (refine wm_i64 ?_; omega) | (refine wq_i64 ?_ ?_ ?_; omega; omega; omega) | rfl)) ?_) | refine RunLN.any ?_ | refine RunL.ev Tryd.tOk rfl rfl rfl ?_ | refine RunE.seq ?_ | refine RunE.region ?_ | refine RunL.nil ?_)
  refine RunL.store Tryd.tOk rfl rfl rfl rfl rfl Z2 rfl rfl fun w_ t_ => ?_
  replace X := X.own t_.ext gB2
  replace Z2 : Blk w_ B2 (rowN n) 57 := t_.at_
  clear t_
  repeat' (first | refine RunL.nil ?_)
  exact RunE.retFn Tryd.func57 (.cell rfl (.agg Tryd.tOk rfl rfl rfl Z2.row) .nil) ⟨rfl, X⟩
theorem dlist_ok (d : Option Addr) (n c : Nat) (w : World) : Rets Tryd.prog 56 [.slice d n c] w fun r w' => r = .agg (rowL (.slice d n c)).toArray ∧ Ext w w' := by
  refine RetsX.of (nt := 5) Tryd.func56 (by kernel_rfl) rfl rfl (by simp) (by simp only [argEnv]; rfl) ?_
  have X := ExtB.refl (fun _ => False) w
  repeat' (first | refine RunE.seq ?_ | refine RunE.region ?_)
  refine RunL.alloc Tryd.tOk rfl rfl rfl fun B2 w2_ a_ => ?_
  have Z2 : Blk w2_ B2 (z4) 57 := a_.at_
  have gB2 := a_.ge X
  replace X := X.trans a_.ext
  clear a_
  repeat' (first | refine RunLN.any ?_ | refine RunL.ev Tryd.tOk rfl rfl rfl ?_ | refine RunE.seq ?_ | refine RunE.region ?_ | refine RunL.nil ?_)
  refine RunL.store Tryd.tOk rfl rfl rfl rfl rfl Z2 rfl rfl fun w_ t_ => ?_
  replace X := X.own t_.ext gB2
  replace Z2 : Blk w_ B2 (rowL (.slice d n c)) 57 := t_.at_
  clear t_
  repeat' (first | refine RunL.nil ?_)
  exact RunE.retFn Tryd.func56 (.cell rfl (.agg Tryd.tOk rfl rfl rfl Z2.row) .nil) ⟨rfl, X⟩
set_option maxRecDepth 4000 in
theorem dhash_ok (x : Dg) (w : World) : Rets Tryd.prog 54 [.agg (digC x).toArray] w fun r w' => r = .agg (rowT x).toArray ∧ Ext w w' := by
  refine RetsX.of (nt := 6) Tryd.func54 (by kernel_rfl) rfl rfl (by simp) (by simp only [argEnv]; rfl) ?_
  have X := ExtB.refl (fun _ => False) w
  repeat' (first | refine RunE.seq ?_ | refine RunE.region ?_)
  refine RunL.box rfl rfl rfl fun B1 w1_ a_ => ?_
  have Z1 : Blk w1_ B1 (digC x) 23 := a_.at_
  have gB1 := a_.ge X
  replace X := X.trans a_.ext
  clear a_
  skip
  refine RunL.alloc Tryd.tOk rfl rfl rfl fun B2 w2_ a_ => ?_
  have Z2 : Blk w2_ B2 (z4) 57 := a_.at_
  have gB2 := a_.ge X
  have n1_2 : B1 ≠ B2 := by have := Z1.lt; have := a_.eq; omega
  have n2_1 : B2 ≠ B1 := Ne.symm n1_2
  replace Z1 := Z1.up a_.ext
  replace X := X.trans a_.ext
  clear a_
  have hsl := dg_sl Z1.row
  repeat' (first | refine RunLN.any ?_ | refine RunL.ev Tryd.tOk rfl rfl rfl ?_ | refine RunL.evV rfl rfl rfl ((OpV.sliceAq Tryd.tOk rfl rfl .none .none (Nat.zero_le _) (Nat.le_refl _) rfl rfl rfl)) ?_ | refine RunL.evV rfl rfl rfl ((OpV.b2sSl (l := x.1) Tryd.tOk rfl rfl rfl rfl hsl)) ?_ | refine RunE.seq ?_ | refine RunE.region ?_ | refine RunL.nil ?_)
  refine RunL.store Tryd.tOk rfl rfl rfl rfl rfl Z2 rfl rfl fun w_ t_ => ?_
  replace X := X.own t_.ext gB2
  replace Z2 : Blk w_ B2 (rowT x) 57 := t_.at_
  clear t_
  repeat' (first | refine RunL.nil ?_)
  exact RunE.retFn Tryd.func54 (.cell rfl (.agg Tryd.tOk rfl rfl rfl Z2.row) .nil) ⟨rfl, X⟩
set_option maxRecDepth 4000 in
set_option maxHeartbeats 4000000 in
theorem dtext_ok (d : Deed) (u v : Value) (w : World) (hs : LDg w u d.seen) (hb : LBy w v d.data) (hf : formedD d = true) :
    Rets Tryd.prog 28 [.agg (dCells d u v).toArray] w fun r w' => w'.ownsRow w.heap.size 5 1 r (textD d).length (bytesV (textD d)) ∧ Ext w w' := by
  have hn := (formedD_inv hf).1
  have henc := deed_enc hf
  have hdep := deed_depth d
  have hsl : d.seen.length ≤ 64 := hn.2.2.2.2.2.2.1
  have hdl : d.data.length ≤ 65536 := hn.2.2.2.2.2.2.2
  clear hn
  refine RetsX.of (nt := 46) Tryd.func28 (by kernel_rfl) rfl rfl (by simp) (by simp only [argEnv]; rfl) ?_
  have X := ExtB.refl (fun _ => False) w
  repeat' (first | refine RunE.seq ?_ | refine RunE.region ?_)
  refine RunL.box rfl rfl rfl fun B1 w1_ a_ => ?_
  have Z1 : Blk w1_ B1 (dCells d u v) 29 := a_.at_
  have gB1 := a_.ge X
  replace X := X.trans a_.ext
  clear a_
  repeat' (first | (with_reducible refine RunLN.chk ?_; refine RunLN.int (by (first | (refine wr_i64 ?_ ?_; omega; omega) | (refine wm_i64 ?_; omega) | (refine wq_i64 ?_ ?_ ?_; omega; omega; omega) | rfl)) ?_) | refine RunLN.any ?_ | refine RunL.ev Tryd.tOk rfl rfl rfl ?_ | refine RunL.evV rfl rfl rfl (OpV.load1 Tryd.tOk rfl rfl rfl (Blk.cell Z1 rfl)) ?_ | refine RunL.evV rfl rfl rfl (OpV.lenSl Tryd.tOk rfl rfl hs) ?_ | refine RunE.seq ?_ | refine RunE.region ?_ | refine RunL.nil ?_ | refine RunE.block ?_)
  refine RunE.loop (ι := Nat × Value) (fun s => [(0, .agg (dCells d u v).toArray), (1, .pointer (some ⟨B1, 0, none⟩)), (2, .slice none 0 0), (3, s.2), (9, u), (10, .int .i64 (d.seen.length : Int)), (11, .int .i64 (s.1 : Int))])
    (fun s w' => s.1 ≤ d.seen.length ∧ w'.ownsRow w.heap.size 57 4 s.2 (d.seen.take s.1).length (flat rowT (d.seen.take s.1)) ∧ (∀ k, s.2.ownBlock = some k → k ≠ B1) ∧ Ext w w' ∧ Blk w' B1 (dCells d u v) 29) (fun s => d.seen.length - s.1) (0, .slice none 0 0) (by repeat (first | exact Sub.nil _ | refine Sub.cons rfl ?_))
    ⟨Nat.zero_le _, World.ownsRow_nil _ _ _ _, fun k hk => by simp [Value.ownBlock] at hk, X, Z1⟩ ?_
  clear X Z1
  rintro ⟨i, y⟩ w3 ⟨hi, hO, hne, X, Z1⟩ again
  simp only at hi hO hne again ⊢
  by_cases hlt : i < d.seen.length
  · obtain ⟨b1, o1, c1, rfl, hr1, -⟩ := isL_held hs hlt
    obtain ⟨x, hx⟩ : ∃ x, d.seen[i]? = some x := ⟨_, List.getElem?_eq_getElem hlt⟩
    have hrx := flat_row encG hr1 hx
    have e1 : d.seen.take (i + 1) = d.seen.take i ++ [x] := by rw [List.take_add_one, hx]; rfl
    have hfl : (d.seen.take i).length ≤ 100 := by simp; omega
    have next : ∀ (u' : Value) w', _ → _ → _ → _ → _ := fun u' w' a b c d => again (i + 1, u') w' (by simp only; omega) ⟨by simp only; omega, a, b, c, d⟩
    simp only [e1] at next
    clear again e1
    generalize d.seen.take i = f at hO next hfl
    obtain ⟨dy, cy, rfl⟩ := isSl_slice (isSl_own hO)
    repeat' (first | (with_reducible refine RunLN.decT ?_ ?_; focus omega) | refine RunLN.any ?_ | refine RunL.ev Tryd.tOk rfl rfl rfl ?_ | refine RunL.evV rfl rfl rfl (OpV.loadN Tryd.tOk rfl rfl rfl rfl (hrx.up X)) ?_ | refine RunL.evV rfl rfl rfl (OpV.indexS Tryd.tOk _ rfl rfl rfl rfl (by omega)) ?_ | refine RunE.condT rfl rfl ?_ | refine RunE.seq ?_ | refine RunE.region ?_ | refine RunL.nil ?_ | refine RunE.block ?_ | refine RunE.skip ?_)
    refine RunL.alloc Tryd.tOk rfl rfl rfl fun B5 wa_ aa_ => ?_
    have gB5 := aa_.ge X
    refine RunL.storeW (vs := digC x) Tryd.tOk rfl rfl rfl rfl rfl aa_.at_ rfl rfl fun w5_ tb_ => ?_
    have Xa_ : Ext _ w5_ := aa_.ext.write tb_.ext (by intro i_ hi_ hlt_; have := aa_.eq; omega)
    have Z5 : Blk w5_ B5 (digC x) 23 := tb_.at_
    have n1_5 : B1 ≠ B5 := by have := Z1.lt; have := aa_.eq; omega
    have n5_1 : B5 ≠ B1 := Ne.symm n1_5
    replace Z1 := Z1.up Xa_
    replace hO := hO.up Xa_
    replace X := X.trans Xa_
    clear Xa_ aa_ tb_
    repeat' (first | refine RunLN.any ?_ | refine RunL.ev Tryd.tOk rfl rfl rfl ?_ | refine RunL.evV rfl rfl rfl (OpV.loadN Tryd.tOk rfl rfl rfl rfl (Blk.row Z5)) ?_ | refine RunE.region ?_ | refine RunL.nil ?_)
    refine RunL.call rfl rfl rfl (dhash_ok x _) ?_
    rintro _ _ ⟨rfl, Xa_⟩
    replace Z1 := Z1.up Xa_
    replace hO := hO.up Xa_
    replace X := X.trans Xa_
    clear Xa_
    skip
    refine RunL.ex rfl rfl rfl (OpE.buildSl Tryd.tOk [.agg (rowT x).toArray] rfl rfl rfl rfl rfl rfl (by simp [Value.cells])) ?_
    rintro _ w_ ⟨B_, rfl, a_⟩
    have hx1 : LTx w_ (.slice (some ⟨B_, 0, none⟩) 1 1) [x] := (isSl_added (n := 1) (sz := 4) a_ rfl)
    replace Z1 := Z1.up a_.ext
    replace hO := hO.up a_.ext
    replace X := X.trans a_.ext
    clear a_
    skip
    have l1 := Z1.lt
    refine RunL.ex rfl rfl rfl (OpE.append' Tryd.tOk rfl rfl rfl rfl rfl rfl hO hx1 (flat_plain encT' [x]) (by show _ * 56 ≤ _; simp only [List.length_singleton]; omega) (by simp only [List.length_singleton]; omega) X.size) ?_
    rintro u' u5 ⟨O5, E5, hown⟩
    have hne5 : ∀ k, u'.ownBlock = some k → k ≠ B1 := fun k hk e => hne _ (hown _ hk (by omega)) e
    replace X : Ext w u5 := X.write E5 (by intro k hk hlt; have := ownsRow_ge hO hk; omega)
    replace Z1 := Z1.ext E5 (fun h => hne _ h rfl)
    clear E5 hown hx1 hO
    repeat' (first | (with_reducible refine RunLN.chk ?_; refine RunLN.int (by (first | (refine wr_i64 ?_ ?_; omega; omega) | (refine wm_i64 ?_; omega) | (refine wq_i64 ?_ ?_ ?_; omega; omega; omega) | rfl)) ?_) | refine RunLN.any ?_ | refine RunL.ev Tryd.tOk rfl rfl rfl ?_ | refine RunE.region ?_ | refine RunL.nil ?_ | refine RunE.inBlock ?_)
    exact RunE.weaken (by repeat (first | exact Sub.nil _ | refine Sub.cons rfl ?_)) (next _ _ (by rw [List.length_append, flat_append]; exact O5) hne5 X Z1)
  · obtain rfl : i = d.seen.length := by omega
    rw [List.take_length] at hO
    obtain ⟨dy, cy, rfl⟩ := isSl_slice (isSl_own hO)
    have hvs : LTx w3 (.slice dy d.seen.length cy) d.seen := isSl_own hO
    clear again hO hne
    replace hb := hb.up X
    have clist := dlist_ok
    have cenc := encode_ok
    repeat' (first | (with_reducible refine RunLN.decF ?_ ?_; focus omega) | refine RunL.ev Tryd.tOk rfl rfl rfl ?_ | refine RunE.condF rfl rfl ?_ | refine RunE.seq ?_ | refine RunE.region ?_ | refine RunL.nil ?_ | refine RunE.exit rfl ?_)
    refine RunE.draw (fun _ => False) mix ?_
    intro wd_ Xd_
    repeat' (first | (with_reducible refine AsyN.chk ?_; refine AsyN.int (by (first | (refine wr_i64 ?_ ?_; omega; omega) | (refine wm_i64 ?_; omega) | (refine wq_i64 ?_ ?_ ?_; omega; omega; omega) | rfl)) ?_) | refine AsyN.any ?_ | refine Asy.ev Tryd.tOk rfl rfl rfl ?_ | refine Asy.evV rfl rfl rfl rfl (fun _ X_ => OpV.load1 Tryd.tOk rfl rfl rfl (Blk.cell (Z1.up (Xd_.trans X_)) rfl)) ?_ | refine Asy.callN rfl rfl rfl (fun _ _ => (dnumber_ok _ _)) ?_ | refine Asy.callN rfl rfl rfl (fun _ _ => (dhash_ok _ _)) ?_ | refine Asy.callN rfl rfl rfl (fun _ _ => (dlist_ok _ _ _ _)) ?_ | refine Asy.evV rfl rfl rfl rfl (fun _ X_ => OpV.loadN Tryd.tOk rfl rfl rfl rfl ((row_prev (Blk.row Z1)).up (Xd_.trans X_))) ?_ | refine Asy.evV rfl rfl rfl rfl (fun _ X_ => (OpV.b2sSl (l := d.data) Tryd.tOk rfl rfl rfl rfl (hb.up (Xd_.trans X_)))) ?_)
    refine Asy.sat0 (fun q w' => ∃ B, q = .slice (some ⟨B, 0, none⟩) 6 6 ∧ IsSl w' 4 q 6 (rowN d.person ++ rowN d.no ++ rowN d.at_ ++ rowT d.prev ++ rowL (.slice dy d.seen.length cy) ++ rowX d.data)) rfl rfl rfl rfl (fun q w' w'' _ e h => by obtain ⟨B, h1, h2⟩ := h; exact ⟨B, h1, h2.up e⟩) (fun w' _ => ?_) ?_
    · refine OpE.mono (OpE.buildSl Tryd.tOk [.agg (rowN d.person).toArray, .agg (rowN d.no).toArray, .agg (rowN d.at_).toArray, .agg (rowT d.prev).toArray, .agg (rowL (.slice dy d.seen.length cy)).toArray, .agg (rowX d.data).toArray] rfl rfl rfl rfl rfl rfl (by simp [Value.cells])) ?_ fun _ _ h => h
      rintro _ w'' ⟨B, rfl, a⟩
      exact ⟨a.ext, B, rfl, isSl_added (n := 6) (sz := 4) a rfl⟩
    refine Asy.sat1 0 (fun q w' => ∃ B, q = .agg (rowL (.slice (some ⟨B, 0, none⟩) 6 6)).toArray ∧ IsSl w' 4 (.slice (some ⟨B, 0, none⟩) 6 6) 6 (rowN d.person ++ rowN d.no ++ rowN d.at_ ++ rowT d.prev ++ rowL (.slice dy d.seen.length cy) ++ rowX d.data)) rfl rfl rfl rfl rfl rfl (fun q w' w'' _ e h => by obtain ⟨B, h1, h2⟩ := h; exact ⟨B, h1, h2.up e⟩) (fun w' q e hx => ?_) ?_
    · obtain ⟨B, rfl, h2⟩ := hx
      refine OpE.mono (OpE.call rfl (clist _ _ _ _)) ?_ fun _ _ h => h
      rintro _ w'' ⟨rfl, h⟩
      exact ⟨h, B, rfl, h2.up h⟩
    refine Asy.sat1 0 (fun q w' => ∃ r, q = .tuple #[r, .int .i64 0] ∧ w'.ownsRow w.heap.size 5 1 r (textD d).length (bytesV (textD d))) rfl rfl rfl rfl rfl rfl (fun q w' w'' _ e h => by obtain ⟨r, h1, h2⟩ := h; exact ⟨r, h1, h2.up e⟩) (fun w' q e hx => ?_) ?_
    · obtain ⟨B, rfl, h2⟩ := hx
      refine OpE.mono (OpE.call rfl (cenc _ _ w' (deed_in hf (hvs.up (Xd_.trans e)) h2) hdep (Nat.le_trans henc (by decide)))) ?_ fun _ _ h => h
      rintro _ w'' ⟨r, rfl, O, h⟩
      exact ⟨h, r, rfl, ownsRow_base O (Nat.le_trans X.size (Xd_.trans e).size)⟩
    refine Asy.sat1P Tryd.tOk 0 (fun q w' => ∃ r, q = .tuple #[r, .int .i64 0] ∧ w'.ownsRow w.heap.size 5 1 r (textD d).length (bytesV (textD d))) rfl rfl rfl rfl rfl rfl (fun q w' w'' _ e h => by obtain ⟨r, h1, h2⟩ := h; exact ⟨r, h1, h2.up e⟩) (fun w' q e hx => ⟨q, rfl, hx⟩) ?_
    refine Asy.sat1P Tryd.tOk 0 (fun q w' => w'.ownsRow w.heap.size 5 1 q (textD d).length (bytesV (textD d))) rfl rfl rfl rfl rfl rfl (fun q w' w'' _ e h => h.up e) (fun w' q e hx => by obtain ⟨r, rfl, h⟩ := hx; exact ⟨r, rfl, h⟩) ?_
    refine Asy.val1P Tryd.tOk 1 (v := .int .i64 0) rfl rfl rfl rfl rfl rfl (fun w' q e hx => by obtain ⟨r, rfl, h⟩ := hx; rfl) ?_
    refine Asy.sat1P Tryd.tOk 0 (fun q w' => w'.ownsRow w.heap.size 5 1 q (textD d).length (bytesV (textD d))) rfl rfl rfl rfl rfl rfl (fun q w' w'' _ e h => h.up e) (fun w' q e hx => ⟨q, rfl, hx⟩) ?_
    refine Asy.tail (by kernel_rfl) ?_
    intro we_ Xe_
    simp only [satsAll]
    rintro rt hR _ - _ - _ - _ - _ -
    replace X := X.trans (Xd_.trans Xe_)
    clear Xd_ Xe_
    repeat' (first | (with_reducible refine RunLN.chk ?_; refine RunLN.int (by (first | (refine wr_i64 ?_ ?_; omega; omega) | (refine wm_i64 ?_; omega) | (refine wq_i64 ?_ ?_ ?_; omega; omega; omega) | rfl)) ?_) | refine RunLN.any ?_ | refine RunL.ev Tryd.tOk rfl rfl rfl ?_ | refine RunE.seq ?_ | refine RunE.region ?_ | refine RunL.nil ?_)
    exact RunE.retFn Tryd.func28 (.tmp rfl .nil) ⟨hR, X⟩
end Go.Sg
end
section
/- Building a deed. -/
namespace Go.Sg
open Go.Rn Go.Dee Go.Rec Go.RowKit Go.Proofs
theorem build_st {T : Tab} {t : TypeId} {fs : List (Nat × Nat × Bool)} {sz b : Nat} {z : List Value} {a u : Bool} {env : Env} {parts : Array (Nat × Operand)} {ps : List (Nat × Value)} {l : List Value} (ht : T.get t = some ⟨.st fs, sz, b, z, a, u⟩) (hp : evParts env parts.toList = some ps)
    (hf : fillL (fun i => (fs[i]?).map fun (o, s, _) => (o, s)) z ps = some l) : evalOp T env (.build t parts) = some (.agg l.toArray) := by
  unfold evalOp
  simp only [ht, hp, hf, force_eq]
theorem build_deed {env : Env} {x0 x1 x2 x3 x4 x5 : Operand} {p n t : Int} {g : Dg} {sn : List Dg} {dt : List UInt8} {du dv : Option Addr} {nu cu nv cv : Nat} (h0 : evO env x0 = some (.int .i64 p)) (h1 : evO env x1 = some (.int .i64 n)) (h2 : evO env x2 = some (.int .i64 t))
    (h3 : evO env x3 = some (.agg (digC g).toArray)) (h4 : evO env x4 = some (.slice du nu cu)) (h5 : evO env x5 = some (.slice dv nv cv)) :
    evalOp Tryd.T env (.build 29 #[(0, x0), (1, x1), (2, x2), (3, x3), (4, x4), (5, x5)]) = some (.agg (dCells ⟨p, n, t, g, sn, dt, 0, 0⟩ (.slice du nu cu) (.slice dv nv cv)).toArray) := by
  have e1 : evParts env [(0, x0), (1, x1), (2, x2), (3, x3), (4, x4), (5, x5)] = some [(0, .int .i64 p), (1, .int .i64 n), (2, .int .i64 t), (3, .agg (digC g).toArray), (4, .slice du nu cu), (5, .slice dv nv cv)] := by
    simp only [evParts, h0, h1, h2, h3, h4, h5]
  exact build_st rfl e1 (by kernel_rfl)
end Go.Sg
end
section
/- sign: Verify. -/
namespace Go.Sg
open Go.Rn Go.NT Go.Sha Go.Cod Go.Proofs
attribute [local irreducible] Go.Rn.RunL Go.Rn.RunE Go.Rn.Asy Go.Rn.OpV Go.Rn.OpE Go.Rn.ExecE

set_option maxRecDepth 4000 in
set_option maxHeartbeats 2000000 in
set_option maxRecDepth 4000 in
theorem verify_ok (key E S : Int) (v : Value) (b : List UInt8) (w : World) (hk : -9223372036854775808 ≤ key ∧ key < 9223372036854775808) (hE : -9223372036854775808 ≤ E ∧ E < 9223372036854775808) (hS : -9223372036854775808 ≤ S ∧ S < 9223372036854775808)
    (hv : IsSl w 1 v b.length (bytesV b)) (hb : b.length ≤ 800000) (hS0 : Row w 0 0 (vals init8.l)) (hkT : Row w 1 0 (vals kTab)) :
    Rets Tryd.prog 22 [.int .i64 key, v, .agg #[.int .i64 E, .int .i64 S]] w fun r w' => r = .bool (verS key b E S) ∧ Ext w w' := by
  refine RetsX.of (nt := 52) Tryd.func22 (by kernel_rfl) rfl rfl (by simp) (by simp only [argEnv]; rfl) ?_
  repeat (first | refine RunE.seq ?_ | refine RunE.region ?_)
  refine RunL.box rfl rfl rfl fun B5 w1 a1 => ?_
  have Z1 : Blk w1 B5 [.int .i64 E, .int .i64 S] 27 := a1.at_
  have X1 := a1.ext
  clear a1
  by_cases h1 : E < 0 ∨ S < 0
  · have hno : sigOk key E S = false := by
      unfold sigOk; rw [decide_eq_false (by omega)]; rfl
    repeat (first | refine RunL.pureB Tryd.tOk _ rfl rfl rfl (by exact decide_eq_true (by split; omega; omega)) ?_ | refine RunL.pureI Tryd.tOk rfl rfl rfl (by (first | exact wr_i64 (by omega) (by omega) | exact wm_i64 (by omega) | exact wq_i64 (by omega) (by omega) (by omega) | rfl)) ?_ | refine RunL.pure Tryd.tOk rfl rfl rfl ?_ | refine RunL.unwantedD rfl rfl ?_ | refine RunL.val rfl rfl rfl (OpV.load1 Tryd.tOk rfl rfl rfl (Blk.cell Z1 rfl)) ?_ | refine RunE.seq ?_ | refine RunE.region ?_ | refine RunL.nil ?_)
    refine RunE.condT rfl rfl ?_
    repeat (first | refine RunL.pure Tryd.tOk rfl rfl rfl ?_ | refine RunE.seq ?_ | refine RunE.region ?_ | refine RunL.nil ?_)
    refine RunE.retFn Tryd.func22 (.tmp rfl .nil) ⟨?_, X1⟩
    simp [oneOr, verS, hno]
  by_cases h2 : 1073741789 ≤ E ∨ 1073741789 ≤ S
  · have hno : sigOk key E S = false := by
      unfold sigOk; rw [decide_eq_false (by omega)]; rfl
    repeat (first | refine RunL.pureB Tryd.tOk _ rfl rfl rfl (by exact decide_eq_false (by split; omega; omega)) ?_ | refine RunL.pureB Tryd.tOk _ rfl rfl rfl (by exact decide_eq_true (by split; omega; omega)) ?_ | refine RunL.pureI Tryd.tOk rfl rfl rfl (by (first | exact wr_i64 (by omega) (by omega) | exact wm_i64 (by omega) | exact wq_i64 (by omega) (by omega) (by omega) | rfl)) ?_ | refine RunL.pure Tryd.tOk rfl rfl rfl ?_ | refine RunL.unwantedD rfl rfl ?_ | refine RunL.val rfl rfl rfl (OpV.load1 Tryd.tOk rfl rfl rfl (Blk.cell Z1 rfl)) ?_ | refine RunE.seq ?_ | refine RunE.region ?_ | refine RunL.nil ?_)
    refine RunE.condT rfl rfl ?_
    repeat (first | refine RunL.pure Tryd.tOk rfl rfl rfl ?_ | refine RunE.seq ?_ | refine RunE.region ?_ | refine RunL.nil ?_)
    refine RunE.retFn Tryd.func22 (.tmp rfl .nil) ⟨?_, X1⟩
    simp [oneOr, verS, hno]
  repeat (first | refine RunL.pureB Tryd.tOk _ rfl rfl rfl (by exact decide_eq_false (by split; omega; omega)) ?_ | refine RunL.pureI Tryd.tOk rfl rfl rfl (by (first | exact wr_i64 (by omega) (by omega) | exact wm_i64 (by omega) | exact wq_i64 (by omega) (by omega) (by omega) | rfl)) ?_ | refine RunL.pure Tryd.tOk rfl rfl rfl ?_ | refine RunL.val rfl rfl rfl (OpV.load1 Tryd.tOk rfl rfl rfl (Blk.cell Z1 rfl)) ?_ | refine RunE.seq ?_ | refine RunE.region ?_ | refine RunL.nil ?_)
  refine RunL.call rfl rfl rfl (valid_ok key _) ?_
  rintro _ _ ⟨rfl, rfl⟩
  cases hvk : validS key with
  | false =>
    have hno : sigOk key E S = false := by
      unfold sigOk; rw [hvk, Bool.and_false]
    repeat (first | refine RunL.pure Tryd.tOk rfl rfl rfl ?_ | refine RunL.nil ?_)
    refine RunE.condT rfl rfl ?_
    repeat (first | refine RunL.pure Tryd.tOk rfl rfl rfl ?_ | refine RunE.seq ?_ | refine RunE.region ?_ | refine RunL.nil ?_)
    refine RunE.retFn Tryd.func22 (.tmp rfl .nil) ⟨?_, X1⟩
    simp [oneOr, verS, hno]
  | true =>
    have hyes : sigOk key E S = true := by
      unfold sigOk; rw [hvk, decide_eq_true (by omega)]; rfl
    have hkb := validS_bd hvk
    repeat (first | refine RunL.pure Tryd.tOk rfl rfl rfl ?_ | refine RunL.nil ?_)
    refine RunE.condF rfl rfl ?_
    repeat (first | refine RunE.seq ?_ | refine RunE.skip ?_)
    have hmb := mulC_bd (powC 4 S) (powC key (-E))
    have hp1 := fun w => power_ok 4 S w
    have hp2 := fun w => power_ok key (-E) w
    have hp3 := fun w => mul_ok (powC 4 S) (powC key (-E)) w
    have hver : verS key b E S = (E == chal (mulC (powC 4 S) (powC key (-E))) key b) := by unfold verS; rw [hyes]; rfl
    generalize hR : mulC (powC 4 S) (powC key (-E)) = R at *
    generalize grpE (validS (powC 4 S) && validS (powC key (-E))) = ee at hp3
    generalize powC 4 S = p1 at *
    generalize powC key (-E) = p2 at *
    refine RunE.draw (fun _ => False) mix ?_
    intro w2 X2
    have Z2 := Z1.ext X2 id
    repeat (first | refine Asy.pure Tryd.tOk rfl rfl rfl ?_)
    refine Asy.v rfl rfl rfl rfl (fun w' X' => OpV.load1 Tryd.tOk rfl rfl rfl (Blk.cell (Z2.ext X' id) rfl)) ?_
    refine Asy.val rfl rfl rfl rfl (fun _ _ => OpE.call rfl (hp1 _)) ?_
    repeat (first | refine Asy.pureI Tryd.tOk rfl rfl rfl (by (first | exact wr_i64 (by omega) (by omega) | exact wm_i64 (by omega) | exact wq_i64 (by omega) (by omega) (by omega) | rfl)) ?_ | refine Asy.pure Tryd.tOk rfl rfl rfl ?_)
    refine Asy.v rfl rfl rfl rfl (fun w' X' => OpV.load1 Tryd.tOk rfl rfl rfl (Blk.cell (Z2.ext X' id) rfl)) ?_
    repeat (first | refine Asy.pureI Tryd.tOk rfl rfl rfl (by (first | exact wr_i64 (by omega) (by omega) | exact wm_i64 (by omega) | exact wq_i64 (by omega) (by omega) (by omega) | rfl)) ?_)
    refine Asy.val rfl rfl rfl rfl (fun _ _ => OpE.call rfl (hp2 _)) ?_
    refine Asy.val rfl rfl rfl rfl (fun _ _ => OpE.keep (OpE.call rfl (hp3 _))) ?_
    repeat (first | refine Asy.pureI Tryd.tOk rfl rfl rfl (by (first | exact wr_i64 (by omega) (by omega) | exact wm_i64 (by omega) | exact wq_i64 (by omega) (by omega) (by omega) | rfl)) ?_ | refine Asy.pure Tryd.tOk rfl rfl rfl ?_)
    refine Asy.tail (by kernel_rfl) ?_
    intro w3 X3
    simp only [satsAll]
    have Y3 := (X1.trans X2).trans X3
    have Z3 := Z2.ext X3 id
    repeat (first | refine RunE.seq ?_ | refine RunL.nil ?_)
    refine RunE.draw (fun _ => False) mix ?_
    intro w4 X4
    have Z4 := Z3.ext X4 id
    have Y4 := Y3.trans X4
    repeat (first | refine Asy.pure Tryd.tOk rfl rfl rfl ?_)
    refine Asy.v rfl rfl rfl rfl (fun w' X' => OpV.load1 Tryd.tOk rfl rfl rfl (Blk.cell (Z4.ext X' id) rfl)) ?_
    repeat (first | refine Asy.pureI Tryd.tOk rfl rfl rfl (by (first | exact wr_i64 (by omega) (by omega) | exact wm_i64 (by omega) | exact wq_i64 (by omega) (by omega) (by omega) | rfl)) ?_ | refine Asy.pure Tryd.tOk rfl rfl rfl ?_)
    refine Asy.sat0 (fun u w' => IsSl w' 1 u 3 [.iface 3 (.int .i64 R), .iface 3 (.int .i64 key), .iface 25 v]) rfl rfl rfl rfl (fun u w' w'' _ e h => h.extE e) (fun w' _ => ?_) ?_
    · refine OpE.mono (OpE.buildSl Tryd.tOk [.iface 3 (.int .i64 R), .iface 3 (.int .i64 key), .iface 25 v] rfl rfl rfl rfl rfl rfl (by simp [Value.cells])) ?_ fun _ _ h => h
      rintro _ w'' ⟨B, rfl, a⟩; exact ⟨a.ext, isSl_added (n := 3) (sz := 1) a rfl⟩
    refine Asy.sat1 0 (fun u w' => IsSl w' 1 u (CV.list [.int R, .int key, .text b]).enc.length (bytesV (CV.list [.int R, .int key, .text b]).enc)) rfl rfl rfl rfl rfl rfl (fun u w' w'' _ e h => h.extE e) (fun w' x e hx => ?_) ?_
    · refine OpE.mono (OpE.call rfl (list_ok [.int R, .int key, .text b] _ _ w' hx (args3 (.int (by omega)) (.int (by omega)) (.text (hv.extE (Y4.trans e)) (by omega))) (by simp) (enc3_le _ _ b (by omega) (by omega) hb))) ?_ fun _ _ h => h
      rintro u w'' ⟨h1, h2⟩; exact ⟨h2, isSl_own h1⟩
    refine Asy.val1 0 (v := .int .i64 (hashS [115, 105, 103, 110] (CV.list [.int R, .int key, .text b]).enc)) rfl rfl rfl rfl rfl rfl (fun w' x e hx => ?_) ?_
    · exact OpE.call rfl (hash_ok ⟨#[115, 105, 103, 110]⟩ x _ w' (by decide) hx (enc3_le _ _ b (by omega) (by omega) hb) (hS0.extE (Y4.trans e)) (hkT.extE (Y4.trans e)))
    repeat (first | refine Asy.pure Tryd.tOk rfl rfl rfl ?_)
    refine Asy.tail (by kernel_rfl) ?_
    intro w5 X5
    simp only [satsAll]
    rintro _ _ _ _
    repeat (first | refine RunL.nil ?_)
    refine RunE.retFn Tryd.func22 (.tmp rfl .nil) ⟨?_, Y4.trans X5⟩
    simp only [oneOr, hver]
    rfl
end Go.Sg
end
