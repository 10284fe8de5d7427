/- The seat's program draws the orders of its regions. -/
import Derived.Test.YtgccoipbcbccnaaApp
import Derived.Test.YtgccoipbcbccnaaTab
set_option linter.unusedSimpArgs false
set_option linter.unusedVariables false
set_option linter.unusedSectionVars false
namespace Go.Sg
open Go.Rn Go.Proofs
theorem mix : Try.prog.follows .mixedOrders = true := by kernel_rfl
end Go.Sg
