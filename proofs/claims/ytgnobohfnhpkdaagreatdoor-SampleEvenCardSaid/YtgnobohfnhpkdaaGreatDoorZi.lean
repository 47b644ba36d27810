import Derived.Test.YtgnobohfnhpkdaaGreatDoorRO
import Derived.WalkMore
import Derived.Laws.BytesString
set_option linter.unusedSimpArgs false
set_option linter.unusedVariables false
open Go Go.RowKit Cs
namespace Go.Proofs.YtgnobohfnhpkdaaGreatDoor
theorem few_n20 {N : Nt} {lb : Nat} (h : fewS N lb = true) : (vld N = true → N.n ≤ 20) ∧ lb ≤ 64 := by
 unfold fewS at h;simp only [Bool.and_eq_true, Bool.or_eq_true, decide_eq_true_eq] at h;exact ⟨fun hv => by obtain ⟨_, h2, _, _⟩ := vld_bounds hv; rcases h.1.2 with h3 | h3 <;> omega, h.2⟩
end Go.Proofs.YtgnobohfnhpkdaaGreatDoor
