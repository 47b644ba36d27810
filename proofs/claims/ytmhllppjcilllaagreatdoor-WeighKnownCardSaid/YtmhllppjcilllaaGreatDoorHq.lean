import Derived.Test.YtmhllppjcilllaaGreatDoorHp
set_option linter.unusedSimpArgs false
set_option linter.unusedVariables false
open Go Go.RowKit
