/- The walk of the law's Weights. -/
import Derived.Test.YtgnobohfnhpkdaaGreatDoorTe
import Derived.Test.YtgnobohfnhpkdaaGreatDoorYh
import Derived.Test.YtgnobohfnhpkdaaGreatDoorDw
import Derived.WalkMore
import Derived.Maps.AppendAt
import Derived.OneCell
set_option linter.unusedSimpArgs false
set_option linter.unusedVariables false
open Go Go.RowKit Cs
namespace Cs
def strF (L : List ByteArray) (i : Nat) : Value := .string (L.getD i ⟨#[]⟩)
end Cs
namespace Go.Proofs.YtgnobohfnhpkdaaGreatDoor
def okT (s : ByteArray) : Prop := (∃ q, rdO s = some q) ∧ s.size ≤ 9
noncomputable def prT (s : ByteArray) : Pr := match rdO s with
  | some q => (qn q, q.den)
  | none => (0, 0)
noncomputable def prL (L : List ByteArray) : List Pr := L.map prT
theorem prL_get (L : List ByteArray) (k : Nat) (hk : k < L.length) : (prL L).getD k (0, 0) = prT (L.getD k ⟨#[]⟩) := by
  unfold prL
  rw [List.getD_eq_getElem?_getD, List.getElem?_map, List.getElem?_eq_getElem hk, List.getD_eq_getElem?_getD, List.getElem?_eq_getElem hk]
  rfl
def okL (L : List ByteArray) (k : Nat) : Prop := ∀ i, i < k → okT (L.getD i ⟨#[]⟩)
end Go.Proofs.YtgnobohfnhpkdaaGreatDoor
