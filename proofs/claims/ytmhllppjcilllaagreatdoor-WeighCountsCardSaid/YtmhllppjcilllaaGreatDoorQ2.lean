import Derived.Test.YtmhllppjcilllaaGreatDoorQ1
import Derived.Test.YtmhllppjcilllaaGreatDoorS2
set_option linter.unusedSimpArgs false
set_option linter.unusedVariables false
section
open Go Go.RowKit Cs
namespace Cs
def b1 (b : Bool) : Nat := if b then 1 else 0
end Cs
end
