import Derived.Test.YtgnobohfnhpkdaaGreatDoorQ1
import Derived.Test.YtgnobohfnhpkdaaGreatDoorS2
set_option linter.unusedSimpArgs false
set_option linter.unusedVariables false
section
open Go Go.RowKit Cs
namespace Cs
section
variable {N : Nt} (hv : vld N = true) (hd : dcmp N = true) (n : Nat) (hn : N.n = (n : Int))
include hv hd hn
omit hv hd hn in
omit hv hd hn in
omit hv hd hn in
omit hv hd hn in
omit hv hd hn in
omit hv hd hn in
omit hv hd hn in
omit hv hd hn in
omit hv hd hn in
omit hv hd hn in
omit hv hd hn in
omit hv hd hn in
end
end Cs
namespace Cs
def hld (s : Nat) (l : Int) : Bool := decide (litVar l ≠ 0) && (s.testBit ((litVar l).toNat - 1) == decide (0 < l))
def evStart (s : Nat) (x : Nd) : Bool := decide (x.kind = 1) || decide (x.kind = 3) || (decide (x.kind = 2) && hld s x.lit)
def evIn (acc : List Bool) (x : Nd) (b : Bool) (k : Int) : Bool := if x.kind = 3 then b && acc.getD k.toNat false else b || acc.getD k.toNat false
def evStep (s : Nat) (acc : List Bool) (x : Nd) : Bool := x.ins.foldl (evIn acc x) (evStart s x)
def truth (s : Nat) (l : List Nd) : List Bool := scan (evStep s) [] l
end Cs
namespace Cs
def b1 (b : Bool) : Nat := if b then 1 else 0
end Cs
end
