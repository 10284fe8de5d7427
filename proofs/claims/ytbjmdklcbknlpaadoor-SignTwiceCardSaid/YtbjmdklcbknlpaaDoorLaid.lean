/- What the listed variables hold. -/
import Derived.Test.YtbjmdklcbknlpaaDoorCloseT
import Derived.Test.YtbjmdklcbknlpaaDoorSha6
namespace Go.Sg
open Go.Rn Go.Sha Go.Proofs
theorem start_of_laid {n : String} {W : World} {l : List (String × DataW Unit)} (hg : Tryd.prog.globalNamed n = some 0) (hp : (l.all fun x => x.2.handleName?.isNone) = true) (hm : (n, DataW.agg ((init8.l.map fun x => (x.toNat : Int)).map fun z => .lit (.int .u32 z))) ∈ l) (h : laidMetH Tryd.prog l W) : Row W 0 0 (vals init8.l) := by
  have := row_of_laid h hp hm hg (by kernel_rfl) Tryd.underlying74 Tryd.underlying73 (by kernel_rfl) rfl (by kernel_rfl)
  rw [List.map_map] at this
  exact this
theorem numbers_of_laid {n : String} {W : World} {l : List (String × DataW Unit)} (hg : Tryd.prog.globalNamed n = some 1) (hp : (l.all fun x => x.2.handleName?.isNone) = true) (hm : (n, DataW.agg ((kTab.map fun x => (x.toNat : Int)).map fun z => .lit (.int .u32 z))) ∈ l) (h : laidMetH Tryd.prog l W) : Row W 1 0 (vals kTab) := by
  have := row_of_laid h hp hm hg (by kernel_rfl) Tryd.underlying93 Tryd.underlying73 (by kernel_rfl) rfl (by kernel_rfl)
  rw [List.map_map] at this
  exact this
end Go.Sg
