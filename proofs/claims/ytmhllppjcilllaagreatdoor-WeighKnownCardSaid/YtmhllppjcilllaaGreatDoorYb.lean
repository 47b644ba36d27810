import Derived.Test.YtmhllppjcilllaaGreatDoorDt
import Derived.Test.YtmhllppjcilllaaGreatDoorQ2
set_option linter.unusedSimpArgs false
set_option linter.unusedVariables false
section
open Go Go.RowKit Cs
namespace Cs
def zr (L : List Pr) (v : Nat) : List Pr := L.set v (0, 0)
def totN (N : Nt) (n : Nat) (lo hi : List Pr) : Nat := ((RP n lo hi).sum N).1
structure Ch where
 r : Nat
 lo : List Pr
 hi : List Pr
 a : Nat
def Ch.step (N : Nt) (n : Nat) (s : Ch) (v : Nat) : Ch :=
 if totN N n s.lo (zr s.hi v) ≤ s.r then ⟨s.r - totN N n s.lo (zr s.hi v), zr s.lo v, s.hi, s.a ||| 2 ^ (v - 1)⟩ else ⟨s.r, s.lo, zr s.hi v, s.a⟩
def Ch.run (N : Nt) (n : Nat) (s : Ch) : Nat → Ch
 | 0 => s
 | m + 1 => (Ch.run N n s m).step N n (m + 1)
end Cs
end
section
open Go Go.RowKit Cs
namespace Cs
def Wh (L : List Pr) : Prop := ∀ k, (L.getD k (0, 0)).2 ≤ 1
end Cs
end
