import Derived.Test.YtoljkoifgnmbgaaGreatDoorDt
import Derived.WalkMore
import Derived.Deep.CutBlock
import Derived.Deep.CutRange
set_option linter.unusedSimpArgs false
set_option linter.unusedVariables false
open Go Go.RowKit Cs
namespace Go.Proofs.YtoljkoifgnmbgaaGreatDoor
theorem size_wts : (Tryz.prog.info? 30).map (·.size) = some 2 := by kernel_rfl
end Go.Proofs.YtoljkoifgnmbgaaGreatDoor
