/- Parts of this project: JudO. -/
import Derived.Test.YtlchncheagigpaaGreatDoorTu19
import Derived.Test.YtlchncheagigpaaGreatDoorTu09
import Derived.WordedOn
set_option maxHeartbeats 32000000
set_option linter.unusedSimpArgs false
set_option linter.unusedVariables false
set_option linter.unusedSectionVars false
section
set_option maxRecDepth 4000
namespace Go.Sg
open Go.Rn Go.RowKit Go.WideShapes Go.ChangeShapes Go.Rec
section
variable {H : Type} {enc : TypeId × Value → H} {P : Program} {w : World}
theorem open_st {t : TypeId} {v : Value} {d : DataW H} {ps : List MemPlace} {held : Bool} {r : Reach} {b0 : Nat} (ht : P.underlying t = some (.struct (P.fieldsOf t))) (hval : Value.okWide P w r b0 t v)
  (h : DataW.Trod enc P w 0 (fun _ => true) held t v d ps) : ∃ fuel cs, v = .agg cs.toArray ∧ Shp P w fuel t cs := by
 unfold Value.okWide at hval
 rw [ht] at hval
 obtain ⟨cs, rfl, -, -⟩ := hval
 obtain ⟨fuel, hf⟩ := shp_of_Trod h
 exact ⟨fuel, cs.toList, by simp, hf⟩
theorem shp_st {t : TypeId} {fuel : Nat} {cs : List Value} (ht : P.underlying t = some (.struct (P.fieldsOf t))) (h : Shp P w fuel t cs) :
  ∃ f, fuel = f + 1 ∧ cs.length = P.cellsOf t ∧ ∀ (L : List (TypeId × Nat)), (P.fieldsOf t).toList.map (fun f => (f.type, f.offset)) = L → ∀ x ∈ L, Shp P w f x.1 ((cs.drop x.2).take (P.cellsOf x.1)) := by
 cases fuel with
 | zero => exact h.elim
 | succ f =>
  unfold Shp at h
  rw [ht] at h
  refine ⟨f, rfl, h.1, fun L hL x hx => ?_⟩
  rw [← hL] at hx
  obtain ⟨fl, hfl, rfl⟩ := List.mem_map.1 hx
  exact h.2 fl hfl
theorem shp_list {α : Type} {en : α → List Value} {k : Nat} (hk : EncOk en k) {wf : α → Prop} {t e : TypeId} {fuel : Nat} {cs : List Value} (ht : P.underlying t = some (.slice e)) (hs : P.cellsOf e = k)
  (h : Shp P w fuel t cs) (hrow : ∀ f, f < fuel → ∀ cs, Shp P w f e cs → ∃ x, cs = en x ∧ wf x) : ∃ (d : Option Addr) (c : Nat) (l : List α), cs = [.slice d l.length c] ∧ IsL w en k (.slice d l.length c) l ∧ ∀ x ∈ l, wf x := by
 cases fuel with
 | zero => exact h.elim
 | succ f =>
  unfold Shp at h
  rw [ht] at h
  subst hs
  obtain ⟨v, n, rows, rfl, hn, hl, hr, hsl⟩ := h hk.pos
  obtain ⟨l, rfl, hw⟩ : ∃ l : List α, rows = l.map en ∧ ∀ x ∈ l, wf x := by
   clear hl hsl
   induction rows with
   | nil => exact ⟨[], rfl, by simp⟩
   | cons r rs ih =>
    obtain ⟨l, rfl, h2⟩ := ih fun r hr' => hr r (List.mem_cons_of_mem _ hr')
    obtain ⟨x, rfl, hx⟩ := hrow f (Nat.lt_succ_self f) r (hr r List.mem_cons_self).2
    exact ⟨x :: l, rfl, fun y hy => by
     rcases List.mem_cons.1 hy with rfl | hy
     ·exact hx
     ·exact h2 y hy⟩
  rw [List.length_map] at hl
  subst hl
  obtain ⟨d, c, rfl⟩ := isSl_slice hsl
  exact ⟨d, c, l, rfl, hsl, hw⟩
theorem trod_func {t : TypeId} {fuel : Nat} {v : Value} {tk : H} {q : List MemPlace} {a b : Array TypeId} {c : Bool} (he : P.underlying t = some (.func a b c))
  (h : DataW.trod enc P w 0 (fun _ => true) true fuel t [v] = some (.held tk, q)) : enc (t, v) = tk := by
 cases fuel with
 | zero => simp [DataW.trod] at h
 | succ n =>
  unfold DataW.trod at h
  rw [he] at h
  split at h <;> simp_all
theorem funcs_of_trod {t e : TypeId} {n fuel : Nat} {cs : List Value} {ids : List (Nat × String)} {p : List MemPlace} {a b : Array TypeId} {c : Bool} (ht : P.underlying t = some (.array n e)) (he : P.underlying e = some (.func a b c)) (hc : P.cellsOf e = 1) (hct : P.cellsOf t = n) (hn : ids.length = n)
  (hid : ∀ x ∈ ids, P.funcNamed x.2 = some x.1 ∧ x.2.toUTF8.data.toList ≠ [])
  (h : DataW.trod (funcToken P) P w 0 (fun _ => true) true fuel t cs = some (.agg (ids.map fun x => .held x.2.toUTF8.data.toList), p)) : cs = ids.map fun x => .func (.func x.1) #[] #[] := by
 obtain ⟨xs, f, rfl, hx0, hl, hxs⟩ := trod_array ht h
 have hd : ids.map (fun x => DataW.held x.2.toUTF8.data.toList) = xs.map (·.1) := by
  have := congrArg Prod.fst hx0
  simpa using this
 clear h hx0
 rw [hct] at hl
 have hlen := mapM_some_length hxs
 apply List.ext_getElem
 ·simp [hl, hn]
 ·intro i h1 h2
  have hi : i < n := by omega
  have hx := mapM_some_get hxs i i (by simp [hi])
  have hxi : i < xs.length := by rw [hlen]; simpa using hi
  rw [List.getElem?_eq_getElem hxi] at hx
  have e1 : ((cs.drop (i * P.cellsOf e)).take (P.cellsOf e)) = [cs[i]] := by
   rw [hc, Nat.mul_one, List.drop_eq_getElem_cons h1]; rfl
  rw [e1] at hx
  have hz : i < ids.length := by omega
  have hd' := congrArg (fun l => l[i]?) hd
  simp only [List.getElem?_map, List.getElem?_eq_getElem hxi, Option.map_some, List.getElem?_eq_getElem hz, Option.some.injEq] at hd'
  obtain ⟨hq1, hq2⟩ := hid ids[i] (List.getElem_mem _)
  have hx' : DataW.trod (funcToken P) P w 0 (fun _ => true) true f e [cs[i]] = some (.held ids[i].2.toUTF8.data.toList, xs[i].2) := by rw [hx, hd']
  have ht' := trod_func he hx'
  cases hb : ids[i].2.toUTF8.data.toList with
  | nil => exact absurd hb hq2
  | cons b' r' =>
   rw [hb] at ht'
   obtain ⟨g, fn, hv, hfn, hnm, hby⟩ := funcToken_tells ht'
   have hs : fn.name = ids[i].2 := bytes_inj (by rw [hby, hb])
   rw [hs, hq1] at hnm
   injection hnm with hnm
   rw [hv, List.getElem_map, hnm]
end
end Go.Sg
namespace Go.Sg
open Go.Rn Go.Proofs Go.RowKit Go.WideShapes Go.ChangeShapes Go.Rec Go.Jud Go.Off Go.Dep Go.Itr Go.Bud Go.Apv Go.Doc Go.Pol
theorem apFlat : Flat Tryz.prog 131 [(3, .int .i64), (3, .int .i64), (3, .int .i64), (3, .int .i64), (3, .int .i64), (3, .int .i64), (4, .bool)] :=
 ⟨by kernel_rfl, by kernel_rfl, by kernel_rfl, by kernel_rfl, by kernel_rfl, fun x hx => by
  simp only [List.mem_cons, List.not_mem_nil, or_false] at hx
  rcases hx with rfl | rfl | rfl | rfl | rfl | rfl | rfl <;> first | exact ⟨Tryz.underlying4, by kernel_rfl, by kernel_rfl⟩ | exact ⟨Tryz.underlying3, by kernel_rfl, by kernel_rfl⟩⟩
theorem usFlat : Flat Tryz.prog 157 [(3, .int .i64), (3, .int .i64), (3, .int .i64), (3, .int .i64), (3, .int .i64)] :=
 ⟨by kernel_rfl, by kernel_rfl, by kernel_rfl, by kernel_rfl, by kernel_rfl, fun x hx => by
  simp only [List.mem_cons, List.not_mem_nil, or_false] at hx
  rcases hx with rfl | rfl | rfl | rfl | rfl <;> first | exact ⟨Tryz.underlying3, by kernel_rfl, by kernel_rfl⟩⟩
section
variable {H : Type} {enc : TypeId × Value → H} {w : World}
theorem ap_row (fuel : Nat) (cs : List Value) (h : Shp Tryz.prog w fuel 131 cs) : ∃ x : Ap, cs = x.cells ∧ True := by
 obtain ⟨h1, h2⟩ := shp_flat apFlat h
 obtain ⟨_, e0, a0, rfl, -⟩ := h2 0 _ rfl
 obtain ⟨_, e1, a1, rfl, -⟩ := h2 1 _ rfl
 obtain ⟨_, e2, a2, rfl, -⟩ := h2 2 _ rfl
 obtain ⟨_, e3, a3, rfl, -⟩ := h2 3 _ rfl
 obtain ⟨_, e4, a4, rfl, -⟩ := h2 4 _ rfl
 obtain ⟨_, e5, a5, rfl, -⟩ := h2 5 _ rfl
 obtain ⟨_, e6, a6, rfl⟩ := h2 6 _ rfl
 refine ⟨⟨a0, a1, a2, a3, a4, a5, a6⟩, ?_, trivial⟩
 have h1 : cs.length = 7 := h1
 apply List.ext_getElem?
 intro i
 rcases i with _ | _ | _ | _ | _ | _ | _ | i
 ·exact e0
 ·exact e1
 ·exact e2
 ·exact e3
 ·exact e4
 ·exact e5
 ·exact e6
 ·rw [List.getElem?_eq_none (by omega), List.getElem?_eq_none (by simp)]
theorem dp_row (fuel : Nat) (cs : List Value) (h : Shp Tryz.prog w fuel 134 cs) : ∃ x : Dp, cs = x.cells ∧ True := by
 obtain ⟨h1, h2⟩ := shp_flat dpFlat h
 obtain ⟨_, e0, a0, rfl, -⟩ := h2 0 _ rfl
 obtain ⟨_, e1, a1, rfl, -⟩ := h2 1 _ rfl
 obtain ⟨_, e2, a2, rfl, -⟩ := h2 2 _ rfl
 obtain ⟨_, e3, a3, rfl, -⟩ := h2 3 _ rfl
 obtain ⟨_, e4, a4, rfl, -⟩ := h2 4 _ rfl
 obtain ⟨_, e5, a5, rfl, -⟩ := h2 5 _ rfl
 obtain ⟨_, e6, a6, rfl, -⟩ := h2 6 _ rfl
 obtain ⟨_, e7, a7, rfl, -⟩ := h2 7 _ rfl
 obtain ⟨_, e8, a8, rfl, -⟩ := h2 8 _ rfl
 obtain ⟨_, e9, a9, rfl⟩ := h2 9 _ rfl
 refine ⟨⟨a0, a1, a2, a3, a4, a5, a6, a7, a8, a9⟩, ?_, trivial⟩
 have h1 : cs.length = 10 := h1
 apply List.ext_getElem?
 intro i
 rcases i with _ | _ | _ | _ | _ | _ | _ | _ | _ | _ | i
 ·exact e0
 ·exact e1
 ·exact e2
 ·exact e3
 ·exact e4
 ·exact e5
 ·exact e6
 ·exact e7
 ·exact e8
 ·exact e9
 ·rw [List.getElem?_eq_none (by omega), List.getElem?_eq_none (by simp)]
theorem it_row (fuel : Nat) (cs : List Value) (h : Shp Tryz.prog w fuel 137 cs) : ∃ x : It, cs = x.cells ∧ True := by
 obtain ⟨h1, h2⟩ := shp_flat itFlat h
 obtain ⟨_, e0, a0, rfl, -⟩ := h2 0 _ rfl
 obtain ⟨_, e1, a1, rfl, -⟩ := h2 1 _ rfl
 obtain ⟨_, e2, a2, rfl, -⟩ := h2 2 _ rfl
 obtain ⟨_, e3, a3, rfl, -⟩ := h2 3 _ rfl
 obtain ⟨_, e4, a4, rfl, -⟩ := h2 4 _ rfl
 obtain ⟨_, e5, a5, rfl⟩ := h2 5 _ rfl
 obtain ⟨_, e6, a6, rfl⟩ := h2 6 _ rfl
 refine ⟨⟨a0, a1, a2, a3, a4, a5, a6⟩, ?_, trivial⟩
 have h1 : cs.length = 7 := h1
 apply List.ext_getElem?
 intro i
 rcases i with _ | _ | _ | _ | _ | _ | _ | i
 ·exact e0
 ·exact e1
 ·exact e2
 ·exact e3
 ·exact e4
 ·exact e5
 ·exact e6
 ·rw [List.getElem?_eq_none (by omega), List.getElem?_eq_none (by simp)]
theorem bg_row (fuel : Nat) (cs : List Value) (h : Shp Tryz.prog w fuel 105 cs) : ∃ x : Bg, cs = x.cells ∧ True := by
 obtain ⟨h1, h2⟩ := shp_flat bgFlat h
 obtain ⟨_, e0, a0, rfl, -⟩ := h2 0 _ rfl
 obtain ⟨_, e1, a1, rfl, -⟩ := h2 1 _ rfl
 obtain ⟨_, e2, a2, rfl, -⟩ := h2 2 _ rfl
 obtain ⟨_, e3, a3, rfl, -⟩ := h2 3 _ rfl
 obtain ⟨_, e4, a4, rfl, -⟩ := h2 4 _ rfl
 obtain ⟨_, e5, a5, rfl, -⟩ := h2 5 _ rfl
 obtain ⟨_, e6, a6, rfl, -⟩ := h2 6 _ rfl
 obtain ⟨_, e7, a7, rfl⟩ := h2 7 _ rfl
 refine ⟨⟨a0, a1, a2, a3, a4, a5, a6, a7⟩, ?_, trivial⟩
 have h1 : cs.length = 8 := h1
 apply List.ext_getElem?
 intro i
 rcases i with _ | _ | _ | _ | _ | _ | _ | _ | i
 ·exact e0
 ·exact e1
 ·exact e2
 ·exact e3
 ·exact e4
 ·exact e5
 ·exact e6
 ·exact e7
 ·rw [List.getElem?_eq_none (by omega), List.getElem?_eq_none (by simp)]
theorem us_row (fuel : Nat) (cs : List Value) (h : Shp Tryz.prog w fuel 157 cs) : ∃ x : Us, cs = x.cells ∧ True := by
 obtain ⟨h1, h2⟩ := shp_flat usFlat h
 obtain ⟨_, e0, a0, rfl, -⟩ := h2 0 _ rfl
 obtain ⟨_, e1, a1, rfl, -⟩ := h2 1 _ rfl
 obtain ⟨_, e2, a2, rfl, -⟩ := h2 2 _ rfl
 obtain ⟨_, e3, a3, rfl, -⟩ := h2 3 _ rfl
 obtain ⟨_, e4, a4, rfl, -⟩ := h2 4 _ rfl
 refine ⟨⟨a0, a1, a2, a3, a4⟩, ?_, trivial⟩
 have h1 : cs.length = 5 := h1
 apply List.ext_getElem?
 intro i
 rcases i with _ | _ | _ | _ | _ | i
 ·exact e0
 ·exact e1
 ·exact e2
 ·exact e3
 ·exact e4
 ·rw [List.getElem?_eq_none (by omega), List.getElem?_eq_none (by simp)]
theorem av_row (fuel : Nat) (cs : List Value) (h : Shp Tryz.prog w fuel 145 cs) : ∃ x : Av, cs = x.cells ∧ True := by
 obtain ⟨h1, h2⟩ := shp_flat avFlat h
 obtain ⟨_, e0, a0, rfl, -⟩ := h2 0 _ rfl
 obtain ⟨_, e1, a1, rfl, -⟩ := h2 1 _ rfl
 obtain ⟨_, e2, a2, rfl, -⟩ := h2 2 _ rfl
 obtain ⟨_, e3, a3, rfl, -⟩ := h2 3 _ rfl
 obtain ⟨_, e4, a4, rfl, -⟩ := h2 4 _ rfl
 obtain ⟨_, e5, a5, rfl, -⟩ := h2 5 _ rfl
 obtain ⟨_, e6, a6, rfl, -⟩ := h2 6 _ rfl
 obtain ⟨_, e7, a7, rfl⟩ := h2 7 _ rfl
 refine ⟨⟨a0, a1, a2, a3, a4, a5, a6, a7⟩, ?_, trivial⟩
 have h1 : cs.length = 8 := h1
 apply List.ext_getElem?
 intro i
 rcases i with _ | _ | _ | _ | _ | _ | _ | _ | i
 ·exact e0
 ·exact e1
 ·exact e2
 ·exact e3
 ·exact e4
 ·exact e5
 ·exact e6
 ·exact e7
 ·rw [List.getElem?_eq_none (by omega), List.getElem?_eq_none (by simp)]
theorem int_row (fuel : Nat) (cs : List Value) (h : Shp Tryz.prog w fuel 3 cs) : ∃ x : Int, cs = intC x ∧ True := by
 obtain ⟨n, rfl, -⟩ := h.int Tryz.underlying3
 exact ⟨n, rfl, trivial⟩
theorem str_row (fuel : Nat) (cs : List Value) (h : Shp Tryz.prog w fuel 9 cs) : ∃ s : ByteArray, cs = strC s ∧ s.size < 9223372036854775808 := by
 obtain ⟨s, rfl, hs⟩ := h.str Tryz.underlying9
 exact ⟨s, rfl, by simp only [maxLen] at hs; omega⟩
theorem holdEs_of {N : Nat} : ∀ l : List Ex, (∀ x ∈ l, HoldE w N x) → HoldEs w N l
 | [], _ => by unfold HoldEs; trivial
 | x :: l, h => by
  unfold HoldEs
  exact ⟨h x List.mem_cons_self, holdEs_of l fun y hy => h y (List.mem_cons_of_mem _ hy)⟩
theorem ex_row : ∀ (m fuel : Nat) (cs : List Value), fuel ≤ m → Shp Tryz.prog w fuel 78 cs → ∃ x : Ex, cs = x.cells ∧ HoldE w w.heap.size x := by
 intro m
 induction m with
 | zero =>
  intro fuel cs hf h
  obtain rfl : fuel = 0 := by omega
  exact h.elim
 | succ m ih =>
  intro fuel cs hf h
  obtain ⟨f, rfl, hl, hs⟩ := shp_st (by kernel_rfl) h
  have hs := hs [(3, 0), (3, 1), (3, 2), (9, 3), (76, 4)] (by kernel_rfl)
  have hc : Tryz.prog.cellsOf 78 = 5 := by kernel_rfl
  have hi : Tryz.prog.cellsOf 3 = 1 := by kernel_rfl
  have hst : Tryz.prog.cellsOf 9 = 1 := by kernel_rfl
  have hsl : Tryz.prog.cellsOf 76 = 1 := by kernel_rfl
  rw [hc] at hl
  obtain ⟨c0, c1, c2, c3, c4, rfl⟩ : ∃ c0 c1 c2 c3 c4, cs = [c0, c1, c2, c3, c4] := by
   match cs, hl with
   | [c0, c1, c2, c3, c4], _ => exact ⟨_, _, _, _, _, rfl⟩
  have h0 := hs (3, 0) (by simp)
  have h1 := hs (3, 1) (by simp)
  have h2 := hs (3, 2) (by simp)
  have h3 := hs (9, 3) (by simp)
  have h4 := hs (76, 4) (by simp)
  simp only [hi, hst, hsl] at h0 h1 h2 h3 h4
  obtain ⟨k, e0, -⟩ := h0.int Tryz.underlying3
  obtain ⟨n, e1, -⟩ := h1.int Tryz.underlying3
  obtain ⟨no, e2, -⟩ := h2.int Tryz.underlying3
  obtain ⟨s, e3, -⟩ := h3.str Tryz.underlying9
  obtain ⟨d, c, l, e4, hL, hw⟩ := shp_list encEx Tryz.underlying76 hc h4 (wf := HoldE w w.heap.size) fun f' hf' cs' h' => ih f' cs' (by omega) h'
  have q0 : c0 = .int .i64 k := by simpa using e0
  have q1 : c1 = .int .i64 n := by simpa using e1
  have q2 : c2 = .int .i64 no := by simpa using e2
  have q3 : c3 = .string s := by simpa using e3
  have q4 : c4 = .slice d l.length c := by simpa using e4
  subst q0 q1 q2 q3 q4
  refine ⟨.mk k n no s d c l, rfl, ?_⟩
  unfold HoldE
  refine ⟨hL, fun hne q hq => isL_own hL (by decide) hne hq, ?_⟩
  exact holdEs_of l hw
theorem ru_row (fuel : Nat) (cs : List Value) (h : Shp Tryz.prog w fuel 121 cs) : ∃ x : Ru, cs = x.cells ∧ HoldE w w.heap.size x.ex := by
 obtain ⟨f, rfl, hl, hs⟩ := shp_st (by kernel_rfl) h
 have hs := hs [(9, 0), (3, 1), (3, 2), (78, 3)] (by kernel_rfl)
 have hc : Tryz.prog.cellsOf 121 = 8 := by kernel_rfl
 have hi : Tryz.prog.cellsOf 3 = 1 := by kernel_rfl
 have hst : Tryz.prog.cellsOf 9 = 1 := by kernel_rfl
 have hx : Tryz.prog.cellsOf 78 = 5 := by kernel_rfl
 rw [hc] at hl
 obtain ⟨c0, c1, c2, c3, c4, c5, c6, c7, rfl⟩ : ∃ c0 c1 c2 c3 c4 c5 c6 c7, cs = [c0, c1, c2, c3, c4, c5, c6, c7] := by
  match cs, hl with
  | [c0, c1, c2, c3, c4, c5, c6, c7], _ => exact ⟨_, _, _, _, _, _, _, _, rfl⟩
 have h0 := hs (9, 0) (by simp)
 have h1 := hs (3, 1) (by simp)
 have h2 := hs (3, 2) (by simp)
 have h3 := hs (78, 3) (by simp)
 simp only [hi, hst, hx] at h0 h1 h2 h3
 obtain ⟨s, e0, -⟩ := h0.str Tryz.underlying9
 obtain ⟨n, e1, -⟩ := h1.int Tryz.underlying3
 obtain ⟨t, e2, -⟩ := h2.int Tryz.underlying3
 obtain ⟨x, e3, hX⟩ := ex_row f f _ (Nat.le_refl _) h3
 have q0 : c0 = .string s := by simpa using e0
 have q1 : c1 = .int .i64 n := by simpa using e1
 have q2 : c2 = .int .i64 t := by simpa using e2
 have q3 : [c3, c4, c5, c6, c7] = x.cells := e3
 subst q0 q1 q2
 refine ⟨⟨s, n, t, x⟩, ?_, hX⟩
 show [_, _, _] ++ [c3, c4, c5, c6, c7] = _
 rw [q3]; rfl
theorem po_row (fuel : Nat) (cs : List Value) (h : Shp Tryz.prog w fuel 80 cs) : ∃ x : Po, cs = x.cells ∧ HoldP w w.heap.size x ∧ PolIn x := by
 obtain ⟨f, rfl, hl, hs⟩ := shp_st (by kernel_rfl) h
 have hs := hs [(9, 0), (74, 1), (74, 2), (75, 3), (78, 4), (3, 9)] (by kernel_rfl)
 have hc : Tryz.prog.cellsOf 80 = 10 := by kernel_rfl
 have hi : Tryz.prog.cellsOf 3 = 1 := by kernel_rfl
 have hst : Tryz.prog.cellsOf 9 = 1 := by kernel_rfl
 have hsl : Tryz.prog.cellsOf 74 = 1 := by kernel_rfl
 have hrl : Tryz.prog.cellsOf 75 = 1 := by kernel_rfl
 have hr : Tryz.prog.cellsOf 121 = 8 := by kernel_rfl
 have hx : Tryz.prog.cellsOf 78 = 5 := by kernel_rfl
 rw [hc] at hl
 obtain ⟨c0, c1, c2, c3, c4, c5, c6, c7, c8, c9, rfl⟩ : ∃ c0 c1 c2 c3 c4 c5 c6 c7 c8 c9, cs = [c0, c1, c2, c3, c4, c5, c6, c7, c8, c9] := by
  match cs, hl with
  | [c0, c1, c2, c3, c4, c5, c6, c7, c8, c9], _ => exact ⟨_, _, _, _, _, _, _, _, _, _, rfl⟩
 have h0 := hs (9, 0) (by simp)
 have h1 := hs (74, 1) (by simp)
 have h2 := hs (74, 2) (by simp)
 have h3 := hs (75, 3) (by simp)
 have h4 := hs (78, 4) (by simp)
 have h9 := hs (3, 9) (by simp)
 simp only [hi, hst, hsl, hrl, hx] at h0 h1 h2 h3 h4 h9
 obtain ⟨s, e0, hss⟩ := h0.str Tryz.underlying9
 obtain ⟨d1, k1, l1, e1, L1, w1⟩ := shp_list encStr Tryz.underlying74 hst h1 fun f' _ cs' h' => str_row f' cs' h'
 obtain ⟨d2, k2, l2, e2, L2, w2⟩ := shp_list encStr Tryz.underlying74 hst h2 fun f' _ cs' h' => str_row f' cs' h'
 obtain ⟨d3, k3, l3, e3, L3, w3⟩ := shp_list encRu Tryz.underlying75 hr h3 fun f' _ cs' h' => ru_row f' cs' h'
 obtain ⟨x, e4, hX⟩ := ex_row f f _ (Nat.le_refl _) h4
 obtain ⟨n, e9, -⟩ := h9.int Tryz.underlying3
 have q0 : c0 = .string s := by simpa using e0
 have q1 : c1 = .slice d1 l1.length k1 := by simpa using e1
 have q2 : c2 = .slice d2 l2.length k2 := by simpa using e2
 have q3 : c3 = .slice d3 l3.length k3 := by simpa using e3
 have q4 : [c4, c5, c6, c7, c8] = x.cells := e4
 have q9 : c9 = .int .i64 n := by simpa using e9
 subst q0 q1 q2 q3 q9
 refine ⟨⟨s, l1, d1, k1, l2, d2, k2, l3, d3, k3, x, n⟩, ?_, ⟨L1, L2, L3, w3, hX, fun hne q hq => isL_own L1 (by decide) hne hq, fun hne q hq => isL_own L2 (by decide) hne hq, fun hne q hq => isL_own L3 (by decide) hne hq⟩, ⟨by simp only [maxLen] at hss; show s.size < _; omega, w1, w2⟩⟩
 show [_, _, _, _] ++ [c4, c5, c6, c7, c8] ++ [_] = _
 rw [q4]; rfl
theorem vs_row (fuel : Nat) (cs : List Value) (h : Shp Tryz.prog w fuel 82 cs) : ∃ x : Vs, cs = x.cells ∧ HoldP w w.heap.size x.pol ∧ PolIn x.pol := by
 obtain ⟨f, rfl, hl, hs⟩ := shp_st (by kernel_rfl) h
 have hs := hs [(3, 0), (3, 1), (3, 2), (80, 3)] (by kernel_rfl)
 have hc : Tryz.prog.cellsOf 82 = 13 := by kernel_rfl
 have hi : Tryz.prog.cellsOf 3 = 1 := by kernel_rfl
 have hp : Tryz.prog.cellsOf 80 = 10 := by kernel_rfl
 rw [hc] at hl
 obtain ⟨c0, c1, c2, r, rfl⟩ : ∃ c0 c1 c2 r, cs = c0 :: c1 :: c2 :: r := by
  match cs, hl with
  | c0 :: c1 :: c2 :: r, _ => exact ⟨_, _, _, _, rfl⟩
 have h0 := hs (3, 0) (by simp)
 have h1 := hs (3, 1) (by simp)
 have h2 := hs (3, 2) (by simp)
 have h3 := hs (80, 3) (by simp)
 simp only [hi, hp] at h0 h1 h2 h3
 obtain ⟨n, e0, -⟩ := h0.int Tryz.underlying3
 obtain ⟨t, e1, -⟩ := h1.int Tryz.underlying3
 obtain ⟨k, e2, -⟩ := h2.int Tryz.underlying3
 obtain ⟨x, e3, hX⟩ := po_row f _ h3
 have q0 : c0 = .int .i64 n := by simpa using e0
 have q1 : c1 = .int .i64 t := by simpa using e1
 have q2 : c2 = .int .i64 k := by simpa using e2
 have q3 : r = x.cells := by
  rw [← e3]
  show r = r.take 10
  rw [List.take_of_length_le (by simp at hl; omega)]
 subst q0 q1 q2 q3
 exact ⟨⟨n, t, k, x⟩, rfl, hX⟩
theorem dk_row (fuel : Nat) (cs : List Value) (h : Shp Tryz.prog w fuel 42 cs) : ∃ x : Dk, cs = x.cells ∧ (IsL w intC 1 (.slice x.pa x.d.parties.length x.pc) x.d.parties ∧ IsL w intC 1 (.slice x.ra x.d.revokes.length x.rc) x.d.revokes ∧ IsL w intC 1 (.slice x.na x.d.needs.length x.nc) x.d.needs) := by
 obtain ⟨f, rfl, hl, hs⟩ := shp_st (by kernel_rfl) h
 have hs := hs [(3, 0), (3, 1), (3, 2), (3, 3), (3, 4), (3, 5), (31, 6), (31, 7), (31, 8), (40, 9)] (by kernel_rfl)
 have hc : Tryz.prog.cellsOf 42 = 41 := by kernel_rfl
 have hi : Tryz.prog.cellsOf 3 = 1 := by kernel_rfl
 have hsl : Tryz.prog.cellsOf 31 = 1 := by kernel_rfl
 have hg : Tryz.prog.cellsOf 40 = 32 := by kernel_rfl
 have hu : Tryz.prog.cellsOf 5 = 1 := by kernel_rfl
 rw [hc] at hl
 obtain ⟨c0, c1, c2, c3, c4, c5, c6, c7, c8, r, rfl⟩ : ∃ c0 c1 c2 c3 c4 c5 c6 c7 c8 r, cs = c0 :: c1 :: c2 :: c3 :: c4 :: c5 :: c6 :: c7 :: c8 :: r := by
  match cs, hl with
  | c0 :: c1 :: c2 :: c3 :: c4 :: c5 :: c6 :: c7 :: c8 :: r, _ => exact ⟨_, _, _, _, _, _, _, _, _, _, rfl⟩
 have h0 := hs (3, 0) (by simp)
 have h1 := hs (3, 1) (by simp)
 have h2 := hs (3, 2) (by simp)
 have h3 := hs (3, 3) (by simp)
 have h4 := hs (3, 4) (by simp)
 have h5 := hs (3, 5) (by simp)
 have h6 := hs (31, 6) (by simp)
 have h7 := hs (31, 7) (by simp)
 have h8 := hs (31, 8) (by simp)
 have h9 := hs (40, 9) (by simp)
 simp only [hi, hsl, hg] at h0 h1 h2 h3 h4 h5 h6 h7 h8 h9
 obtain ⟨a0, e0, -⟩ := h0.int Tryz.underlying3
 obtain ⟨a1, e1, -⟩ := h1.int Tryz.underlying3
 obtain ⟨a2, e2, -⟩ := h2.int Tryz.underlying3
 obtain ⟨a3, e3, -⟩ := h3.int Tryz.underlying3
 obtain ⟨a4, e4, -⟩ := h4.int Tryz.underlying3
 obtain ⟨a5, e5, -⟩ := h5.int Tryz.underlying3
 obtain ⟨d6, k6, l6, e6, L6, -⟩ := shp_list encI Tryz.underlying31 hi h6 fun f' _ cs' h' => int_row f' cs' h'
 obtain ⟨d7, k7, l7, e7, L7, -⟩ := shp_list encI Tryz.underlying31 hi h7 fun f' _ cs' h' => int_row f' cs' h'
 obtain ⟨d8, k8, l8, e8, L8, -⟩ := shp_list encI Tryz.underlying31 hi h8 fun f' _ cs' h' => int_row f' cs' h'
 have q0 : c0 = .int .i64 a0 := by simpa using e0
 have q1 : c1 = .int .i64 a1 := by simpa using e1
 have q2 : c2 = .int .i64 a2 := by simpa using e2
 have q3 : c3 = .int .i64 a3 := by simpa using e3
 have q4 : c4 = .int .i64 a4 := by simpa using e4
 have q5 : c5 = .int .i64 a5 := by simpa using e5
 have q6 : c6 = .slice d6 l6.length k6 := by simpa using e6
 have q7 : c7 = .slice d7 l7.length k7 := by simpa using e7
 have q8 : c8 = .slice d8 l8.length k8 := by simpa using e8
 have hr32 : r.length = 32 := by simp at hl; omega
 have hr : r.take 32 = r := List.take_of_length_le (by omega)
 have h9' : Shp Tryz.prog w f 40 r := by
  have : Shp Tryz.prog w f 40 (r.take 32) := h9
  rwa [hr] at this
 obtain ⟨-, f2, ha⟩ := h9'.array Tryz.underlying40
 obtain ⟨tx, htx⟩ : ∃ tx : Nat → UInt8, r = (List.range 32).map fun i => Value.int .u8 ((tx i).toNat : Int) := by
  have hb : ∀ i, i < 32 → ∃ b : UInt8, r[i]? = some (.int .u8 (b.toNat : Int)) := fun i hi' => by
   have h10 := ha i hi'
   rw [hu, Nat.mul_one] at h10
   obtain ⟨n, hn, hw⟩ := h10.int Tryz.underlying5
   obtain ⟨b, rfl⟩ := u8_cells hw
   refine ⟨b, ?_⟩
   have := congrArg (fun l => l[0]?) hn
   simpa [List.getElem?_take, List.getElem?_drop] using this
  refine ⟨fun i => if hi' : i < 32 then (hb i hi').choose else 0, ?_⟩
  apply List.ext_getElem?
  intro i
  by_cases hi' : i < 32
  ·rw [(hb i hi').choose_spec, List.getElem?_map, List.getElem?_range hi']
   simp [hi']
  ·rw [List.getElem?_eq_none (by omega), List.getElem?_eq_none (by simp; omega)]
 subst q0 q1 q2 q3 q4 q5 q6 q7 q8 htx
 exact ⟨⟨⟨a0, a1, a2, a3, a4, a5, l6, l7, l8⟩, tx, d6, k6, d7, k7, d8, k8⟩, rfl, L6, L7, L8⟩
set_option maxRecDepth 8000 in
theorem reg_open {v : Value} {d : DataW H} {ps : List MemPlace} {held : Bool} {r : Reach} {b0 : Nat} (hval : Value.okWide Tryz.prog w r b0 30 v)
  (h : DataW.Trod enc Tryz.prog w 0 (fun _ => true) held 30 v d ps) : ∃ x : Rg, v = rgV x ∧ RegIn w w.heap.size x := by
 obtain ⟨fuel, cs, rfl, hsh⟩ := open_st (by kernel_rfl) hval h
 obtain ⟨f, rfl, hl, hs⟩ := shp_st (by kernel_rfl) hsh
 have hs := hs [(22, 0), (23, 1), (24, 2), (25, 3), (26, 4), (27, 5), (28, 6)] (by kernel_rfl)
 have hc : Tryz.prog.cellsOf 30 = 7 := by kernel_rfl
 have k0 : Tryz.prog.cellsOf 22 = 1 := by kernel_rfl
 have k1 : Tryz.prog.cellsOf 23 = 1 := by kernel_rfl
 have k2 : Tryz.prog.cellsOf 24 = 1 := by kernel_rfl
 have k3 : Tryz.prog.cellsOf 25 = 1 := by kernel_rfl
 have k4 : Tryz.prog.cellsOf 26 = 1 := by kernel_rfl
 have k5 : Tryz.prog.cellsOf 27 = 1 := by kernel_rfl
 have k6 : Tryz.prog.cellsOf 28 = 1 := by kernel_rfl
 rw [hc] at hl
 obtain ⟨c0, c1, c2, c3, c4, c5, c6, rfl⟩ : ∃ c0 c1 c2 c3 c4 c5 c6, cs = [c0, c1, c2, c3, c4, c5, c6] := by
  match cs, hl with
  | [c0, c1, c2, c3, c4, c5, c6], _ => exact ⟨_, _, _, _, _, _, _, rfl⟩
 have h0 := hs (22, 0) (by simp)
 have h1 := hs (23, 1) (by simp)
 have h2 := hs (24, 2) (by simp)
 have h3 := hs (25, 3) (by simp)
 have h4 := hs (26, 4) (by simp)
 have h5 := hs (27, 5) (by simp)
 have h6 := hs (28, 6) (by simp)
 simp only [k0, k1, k2, k3, k4, k5, k6] at h0 h1 h2 h3 h4 h5 h6
 obtain ⟨d0, z0, l0, e0, L0, -⟩ := shp_list encA Tryz.underlying22 (by kernel_rfl) h0 fun f' _ cs' h' => ap_row f' cs' h'
 obtain ⟨d1, z1, l1, e1, L1, -⟩ := shp_list encD Tryz.underlying23 (by kernel_rfl) h1 fun f' _ cs' h' => dp_row f' cs' h'
 obtain ⟨d2, z2, l2, e2, L2, -⟩ := shp_list encIt Tryz.underlying24 (by kernel_rfl) h2 fun f' _ cs' h' => it_row f' cs' h'
 obtain ⟨d3, z3, l3, e3, L3, -⟩ := shp_list encBg Tryz.underlying25 (by kernel_rfl) h3 fun f' _ cs' h' => bg_row f' cs' h'
 obtain ⟨d4, z4, l4, e4, L4, W4⟩ := shp_list encVs Tryz.underlying26 (by kernel_rfl) h4 fun f' _ cs' h' => vs_row f' cs' h'
 obtain ⟨d5, z5, l5, e5, L5, W5⟩ := shp_list encDk Tryz.underlying27 (by kernel_rfl) h5 fun f' _ cs' h' => dk_row f' cs' h'
 obtain ⟨d6, z6, l6, e6, L6, -⟩ := shp_list encAv Tryz.underlying28 (by kernel_rfl) h6 fun f' _ cs' h' => av_row f' cs' h'
 have q0 : c0 = .slice d0 l0.length z0 := by simpa using e0
 have q1 : c1 = .slice d1 l1.length z1 := by simpa using e1
 have q2 : c2 = .slice d2 l2.length z2 := by simpa using e2
 have q3 : c3 = .slice d3 l3.length z3 := by simpa using e3
 have q4 : c4 = .slice d4 l4.length z4 := by simpa using e4
 have q5 : c5 = .slice d5 l5.length z5 := by simpa using e5
 have q6 : c6 = .slice d6 l6.length z6 := by simpa using e6
 subst q0 q1 q2 q3 q4 q5 q6
 exact ⟨⟨l0, d0, z0, l1, d1, z1, l2, d2, z2, l3, d3, z3, l4, d4, z4, l5, d5, z5, l6, d6, z6⟩, rfl, ⟨L0, L1, L2, L3, L4, L5, L6, fun x hx => (W4 x hx).1, fun x hx => (W4 x hx).2, Nat.le_refl _, W5⟩⟩
theorem ints_open {v : Value} {d : DataW H} {ps : List MemPlace} {held : Bool} {r : Reach} {b0 : Nat} (hval : Value.okWide Tryz.prog w r b0 31 v)
  (h : DataW.Trod enc Tryz.prog w 0 (fun _ => true) held 31 v d ps) : ∃ l : List Int, IsL w intC 1 v l := by
 obtain ⟨l, -, h2, -⟩ := open_rows encI Tryz.underlying31 (by kernel_rfl) int_row hval h
 exact ⟨l, h2⟩
theorem uses_open {v : Value} {d : DataW H} {ps : List MemPlace} {held : Bool} {r : Reach} {b0 : Nat} (hval : Value.okWide Tryz.prog w r b0 32 v)
  (h : DataW.Trod enc Tryz.prog w 0 (fun _ => true) held 32 v d ps) : ∃ l : List Us, IsL w Us.cells 5 v l := by
 obtain ⟨l, -, h2, -⟩ := open_rows encUs Tryz.underlying32 (by kernel_rfl) us_row hval h
 exact ⟨l, h2⟩
end
def kindsI : List (Nat × String) := [(244, "signatory/policies.kinds$1"), (245, "signatory/policies.kinds$2"), (246, "signatory/policies.kinds$3"), (247, "signatory/policies.kinds$4"), (248, "signatory/policies.kinds$5")]
def kindsB : List (List UInt8) := [[115, 105, 103, 110, 97, 116, 111, 114, 121, 47, 112, 111, 108, 105, 99, 105, 101, 115, 46, 107, 105, 110, 100, 115, 36, 49], [115, 105, 103, 110, 97, 116, 111, 114, 121, 47, 112, 111, 108, 105, 99, 105, 101, 115, 46, 107, 105, 110, 100, 115, 36, 50], [115, 105, 103, 110, 97, 116, 111, 114, 121, 47, 112, 111, 108, 105, 99, 105, 101, 115, 46, 107, 105, 110, 100, 115, 36, 51], [115, 105, 103, 110, 97, 116, 111, 114, 121, 47, 112, 111, 108, 105, 99, 105, 101, 115, 46, 107, 105, 110, 100, 115, 36, 52], [115, 105, 103, 110, 97, 116, 111, 114, 121, 47, 112, 111, 108, 105, 99, 105, 101, 115, 46, 107, 105, 110, 100, 115, 36, 53]]
theorem kinds_of_laid {n : String} {W : World} {l : List (String × DataW Unit)} (hg : Tryz.prog.globalNamed n = some 0) (_ : (0 : Nat) = 0) (hm : (n, DataW.iface "func table" (.agg (kindsB.map fun s => .iface "func" (.lit (.string s))))) ∈ l) (h : laidMetH Tryz.prog l W) : Row W 0 0 kindsC := by
 obtain ⟨g, t, cs, fuel, p, h1, h2, h3, h4⟩ := h.funcs hm
 rw [hg] at h1
 injection h1 with h1
 subst h1
 have ht : (Tryz.prog.globals[0]?).map (·.type) = some 271 := by kernel_rfl
 rw [ht] at h2
 injection h2 with h2
 subst h2
 have hd : (DataW.agg (kindsB.map fun s => .iface "func" (.lit (.string s))) : DataW Unit).funcsOut = .agg (kindsI.map fun x => .held x.2.toUTF8.data.toList) := by kernel_rfl
 rw [hd] at h4
 have hcs := funcs_of_trod Tryz.underlying271 Tryz.underlying215 (by kernel_rfl) (by kernel_rfl) rfl (fun x hx => by
  simp only [kindsI, List.mem_cons, List.not_mem_nil, or_false] at hx
  rcases hx with rfl | rfl | rfl | rfl | rfl <;> exact ⟨by kernel_rfl, by decide⟩) h4
 intro i v hv
 rw [Nat.zero_add, World.var?_cell hg h3 i]
 have e : cs.toList[i]? = some v := by rw [hcs]; exact hv
 simpa using e
end Go.Sg
end
