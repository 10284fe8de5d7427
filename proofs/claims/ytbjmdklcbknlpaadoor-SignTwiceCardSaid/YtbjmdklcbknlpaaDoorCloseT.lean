/- A tied law's last step: what the listed variables hold; arguments that are texts and bytes. -/
import Derived.Test.YtbjmdklcbknlpaaDoorClose
import Derived.Test.YtbjmdklcbknlpaaDoorOpen
import Derived.Test.YtbjmdklcbknlpaaDoorTie
import Derived.Test.YtbjmdklcbknlpaaDoorCards
import Derived.LaidMore
import Derived.Stop.Joined
import Derived.MakeChecks
import Derived.ChangeMaps5
namespace Go.Sg
open Go.Rn Go.RowKit Go.WideShapes Go.ChangeShapes

section
variable {H : Type} {enc : TypeId × Value → H} {P : Program} {w : World}

theorem trod_array {t e : TypeId} {n fuel : Nat} {cs : List Value} {x : DataW H × List MemPlace} {base : Nat} {sp : Nat → Bool} {held : Bool} (ht : P.underlying t = some (.array n e)) (h : DataW.trod enc P w base sp held fuel t cs = some x) :
    ∃ xs f, fuel = f + 1 ∧ x = (.agg (xs.map (·.1)), xs.flatMap (·.2)) ∧ cs.length = P.cellsOf t ∧
      (List.range n).mapM (fun i => DataW.trod enc P w base sp held f e ((cs.drop (i * P.cellsOf e)).take (P.cellsOf e))) = some xs := by
  cases fuel with
  | zero => simp [DataW.trod] at h
  | succ f =>
    unfold DataW.trod at h
    rw [ht] at h
    split at h <;> simp_all
    obtain ⟨hl, xs, hxs, hd⟩ := h
    exact ⟨xs, hd.symm, hxs⟩

theorem ints_of_trod {k : IntKind} {t e : TypeId} {n : Nat} {fuel : Nat} {cs : List Value} {zs : List Int} {p : List MemPlace} {held : Bool} (ht : P.underlying t = some (.array n e)) (he : P.underlying e = some (.int k)) (hc : P.cellsOf e = 1) (hn : zs.length = n) (hct : P.cellsOf t = n)
    (h : DataW.trod enc P w 0 (fun _ => true) held fuel t cs = some (.agg (zs.map fun z => .lit (.int k z)), p)) : cs = zs.map fun z => Value.int k z := by
  obtain ⟨xs, f, rfl, hx0, hl, hxs⟩ := trod_array ht h
  have hd : zs.map (fun z => DataW.lit (.int k z)) = xs.map (·.1) := by
    have := congrArg Prod.fst hx0
    simpa using this
  clear h hx0
  rw [hct] at hl
  · have hlen := mapM_some_length hxs
    apply List.ext_getElem
    · simp [hl, hn]
    · intro i h1 h2
      have hi : i < n := by omega
      have hx := mapM_some_get hxs i i (by simp [hi])
      have hxi : i < xs.length := by rw [hlen]; simpa using hi
      rw [List.getElem?_eq_getElem hxi] at hx
      have e1 : ((cs.drop (i * P.cellsOf e)).take (P.cellsOf e)) = [cs[i]] := by
        rw [hc, Nat.mul_one, List.drop_eq_getElem_cons h1]; rfl
      rw [e1] at hx
      obtain ⟨m, hm, hm2, -⟩ := DataW.trod_int he hx
      have hm' : cs[i] = .int k m := by simpa using hm
      have hd' := congrArg (fun l => l[i]?) hd
      simp only [List.getElem?_map, List.getElem?_eq_getElem hxi, Option.map_some] at hd'
      have hz : i < zs.length := by omega
      rw [List.getElem?_eq_getElem hz] at hd'
      simp only [Option.map_some, Option.some.injEq] at hd'
      rw [hm2] at hd'
      simp only [DataW.lit.injEq, Lit.int.injEq, true_and] at hd'
      rw [hm']; simp [hd']

theorem row_of_laid {k : IntKind} {n : String} {g : Nat} {t e : TypeId} {m : Nat} {zs : List Int} {l : List (String × DataW Unit)} (hL : laidMetH P l w) (hp : (l.all fun x => x.2.handleName?.isNone) = true) (hm : (n, DataW.agg (zs.map fun z => .lit (.int k z))) ∈ l)
    (hg : P.globalNamed n = some g) (hgt : (P.globals[g]?).map (·.type) = some t) (ht : P.underlying t = some (.array m e)) (he : P.underlying e = some (.int k)) (hc : P.cellsOf e = 1) (hn : zs.length = m) (hct : P.cellsOf t = m) :
    Row w g 0 (zs.map fun z => .int k z) := by
  rw [Go.MakeChecks.laidMetH_plain _ _ _ hp] at hL
  obtain ⟨ps, hv, -⟩ := hL
  have key : ∀ (l : List (String × DataW Unit)) (ps : List MemPlace), DataW.LaidVars P w l ps → (n, DataW.agg (zs.map fun z => .lit (.int k z))) ∈ l → ∃ cs, w.var? P n = some cs ∧ cs.toList = zs.map fun z => .int k z := by
    intro l
    induction l with
    | nil => intro ps _ h; simp at h
    | cons x r ih =>
      intro ps hv h
      obtain ⟨n', d'⟩ := x
      obtain ⟨g', t', cs, fuel, p, q, h1, h2, h3, h4, h5, -⟩ := hv
      rcases List.mem_cons.1 h with h | h
      · injection h with ha hb
        subst ha; subst hb
        rw [hg] at h1; injection h1 with h1; subst h1
        rw [hgt] at h2; injection h2 with h2; subst h2
        exact ⟨cs, h3, ints_of_trod ht he hc hn hct h4⟩
      · exact ih q h5 h
  obtain ⟨cs, h1, h2⟩ := key l ps hv hm
  intro i v hi
  rw [Nat.zero_add, World.var?_cell hg h1 i, ← h2] at *
  simpa using hi

theorem okWide_slice {t e : TypeId} {r : Reach} {b0 : Nat} {v : Value} (ht : P.underlying t = some (.slice e)) (h : Value.okWide P w r b0 t v) : ∃ d n c, v = .slice d n c := by
  unfold Value.okWide at h
  rw [ht] at h
  simp only [Cell.okWide, ht, Cell.ok] at h
  cases v <;> simp_all

theorem open_bytes {t e : TypeId} {v : Value} {d : DataW H} {ps : List MemPlace} {held : Bool} {r : Reach} {b0 : Nat} (ht : P.underlying t = some (.slice e)) (he : P.underlying e = some (.int .u8)) (hs : P.cellsOf e = 1) (hval : Value.okWide P w r b0 t v)
    (h : DataW.Trod enc P w 0 (fun _ => true) held t v d ps) : ∃ l : List UInt8, l.length ≤ maxLen ∧ IsSl w 1 v l.length (bytesV l) := by
  obtain ⟨a, n, c, rfl⟩ := okWide_slice ht hval
  obtain ⟨fuel, hf⟩ := shp_of_Trod h
  obtain ⟨v, l, hv, hl, hsl⟩ := hf.bytes ht he hs
  have : v = .slice a n c := by simpa [Value.cells] using hv.symm
  subst this
  exact ⟨l, hl, hsl⟩
end
end Go.Sg
