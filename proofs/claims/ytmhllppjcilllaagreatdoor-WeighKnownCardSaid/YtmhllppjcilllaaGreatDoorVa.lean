import Derived.Test.YtmhllppjcilllaaGreatDoorYb
set_option linter.unusedSimpArgs false
set_option linter.unusedVariables false
open Go Go.RowKit Cs Go.Proofs.YtmhllppjcilllaaGreatDoor
namespace Cs
def nlit (n : Nat) (lo hi : List Nat) (l : Int) : Nat := if 1 ≤ l.natAbs ∧ l.natAbs ≤ n then (if l < 0 then lo.getD l.natAbs 0 else hi.getD l.natAbs 0) else 0
def RL (n : Nat) (lo hi : List Nat) : Rg Nat := ⟨0, 1, (· + ·), (· * ·), nlit n lo hi, fun v => nlit n lo hi (-v) + nlit n lo hi v⟩
end Cs
