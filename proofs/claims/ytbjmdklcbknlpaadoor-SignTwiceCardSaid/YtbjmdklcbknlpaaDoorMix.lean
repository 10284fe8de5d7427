/- The seat's program draws the orders of its regions. -/
import Derived.Test.YtbjmdklcbknlpaaDoorApp
import Derived.Test.YtbjmdklcbknlpaaDoorTab
namespace Go.Sg
open Go.Rn Go.Proofs
theorem mix : Tryd.prog.follows .mixedOrders = true := by kernel_rfl
end Go.Sg
