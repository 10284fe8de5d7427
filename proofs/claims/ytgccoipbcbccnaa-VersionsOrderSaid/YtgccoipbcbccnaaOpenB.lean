/- Arguments that are bytes. -/
import Derived.Test.YtgccoipbcbccnaaOpenL
set_option linter.unusedSimpArgs false
set_option linter.unusedVariables false
set_option linter.unusedSectionVars false
namespace Go.Sg
open Go.Rn Go.RowKit Go.WideShapes Go.ChangeShapes Go.Rec
theorem open_bytes {H : Type} {enc : TypeId × Value → H} {P : Program} {w : World} {t e : TypeId} {v : Value} {d : DataW H} {ps : List MemPlace} {held : Bool} {r : Reach} {b0 : Nat} (ht : P.underlying t = some (.slice e)) (he : P.underlying e = some (.int .u8)) (hs : P.cellsOf e = 1) (hval : Value.okWide P w r b0 t v)
    (h : DataW.Trod enc P w 0 (fun _ => true) held t v d ps) : ∃ l : List UInt8, l.length ≤ maxLen ∧ IsSl w 1 v l.length (bytesV l) := by
  obtain ⟨a, n, c, rfl⟩ := okWide_sl ht hval
  obtain ⟨fuel, hf⟩ := shp_of_Trod h
  obtain ⟨v, l, hv, hl, hsl⟩ := hf.bytes ht he hs
  have : v = .slice a n c := by simpa [Value.cells] using hv.symm
  subst this
  exact ⟨l, hl, hsl⟩
end Go.Sg
