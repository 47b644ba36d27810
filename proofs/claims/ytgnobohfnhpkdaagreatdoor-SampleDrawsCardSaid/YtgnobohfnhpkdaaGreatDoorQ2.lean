/- Plain facts: the counts as sums over assignments; the truth of nets; each model of a deterministic net is counted once. -/
import Derived.Test.YtgnobohfnhpkdaaGreatDoorQ1
import Derived.Test.YtgnobohfnhpkdaaGreatDoorS2
set_option linter.unusedSimpArgs false
set_option linter.unusedVariables false
section
open Go Go.RowKit Cs
namespace Cs
section
variable {N : Nt} (hv : vld N = true) (hd : dcmp N = true) (n : Nat) (hn : N.n = (n : Int))
include hv hd hn
omit hv hd hn in
omit hv hd hn in
omit hv hd hn in
omit hv hd hn in
omit hv hd hn in
omit hv hd hn in
omit hv hd hn in
omit hv hd hn in
omit hv hd hn in
omit hv hd hn in
omit hv hd hn in
omit hv hd hn in
end
end Cs
namespace Cs
def hld (s : Nat) (l : Int) : Bool := decide (litVar l ≠ 0) && (s.testBit ((litVar l).toNat - 1) == decide (0 < l))
end Cs
namespace Cs
def b1 (b : Bool) : Nat := if b then 1 else 0
end Cs
end
