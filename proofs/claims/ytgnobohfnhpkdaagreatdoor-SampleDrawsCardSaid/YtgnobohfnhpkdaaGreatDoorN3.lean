/- The walks of strings.Builder: copyCheck, WriteByte, String (after the shelf's texts). The walk of the natural numbers: Text. -/
import Derived.Test.YtgnobohfnhpkdaaGreatDoorN1
import Derived.Test.YtgnobohfnhpkdaaGreatDoorNr
import Derived.Lib.Builder
import Derived.Lib.AppendStr
import Derived.Lib.UnsafeStr
import Derived.Laws.Externs
import Derived.Test.YtgnobohfnhpkdaaGreatDoorM1
import Derived.Test.YtgnobohfnhpkdaaGreatDoorB1
set_option linter.unusedSimpArgs false
set_option linter.unusedVariables false
section
open Go Go.RowKit Cs
namespace Go.Proofs.YtgnobohfnhpkdaaGreatDoor
theorem cells_u8 : Tryz.prog.cellsOf 5 = 1 := by kernel_rfl
end Go.Proofs.YtgnobohfnhpkdaaGreatDoor
end
