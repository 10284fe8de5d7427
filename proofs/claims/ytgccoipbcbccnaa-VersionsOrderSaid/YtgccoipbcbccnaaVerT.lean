/- Steps of a history. -/
import Derived.Test.YtgccoipbcbccnaaVer1
set_option linter.unusedSimpArgs false
set_option linter.unusedVariables false
set_option linter.unusedSectionVars false
namespace Go.Ver
open Go.Rn Go.Rec
@[reducible] def Step.cells (x : Step) : List Value := [.int .i64 x.at_, .int .i64 x.value, .bool x.ok]
theorem encS : EncOk Step.cells 3 := ⟨fun _ => rfl, fun _ => rfl, by decide⟩
abbrev LS (w : World) (v : Value) (l : List Step) : Prop := IsL w Step.cells 3 v l
end Go.Ver
