/- The walk of SampleUniform, for every argument. -/
import Derived.Test.YtgnobohfnhpkdaaGreatDoorYt
set_option linter.unusedSimpArgs false
set_option linter.unusedVariables false
open Go Go.RowKit Cs
namespace Go.Proofs.YtgnobohfnhpkdaaGreatDoor
theorem uniform_any (w : World) (N : Nt) (A : Option Addr) (c : Nat) (hlen : N.l.length ≤ 140737488355328) (hN : NtAt w w.heap.size A N.l) (hT : Tab w) :
    Calls Tryz.prog 5 #[ntV N A c] w fun e w' => e = .returned (.bool true) ∧ Below w.heap.size w w' := by
  cases hf : fewS N 0
  · exact uniform_no w N A c hlen hN hT (.inl hf)
  · by_cases h6 : 6 < N.n
    · exact uniform_no w N A c hlen hN hT (.inr (.inl ⟨hf, h6⟩))
    · by_cases hc : cchk N = 0
      · obtain ⟨hn0, hn1, _, _⟩ := vld_bounds (cchk_vld hc)
        have hn : N.n = ((N.n.toNat : Nat) : Int) := by omega
        have hn6 : N.n.toNat ≤ 6 := by omega
        have hin : ∀ k (hk : k < N.l.length), N.l[k].ins.length ≤ 1000000 := by
          have hf2 := hf
          unfold fewS at hf2
          simp only [Bool.and_eq_true] at hf2
          exact few_ins hf2.1.1
        cases ha : ap2 N N.n.toNat
        · exact uniform_no2 w N A c N.n.toNat hlen hN hT hf hn hn6 hc (.inl ha)
        · by_cases h0 : cntN N = 0
          · exact uniform_no2 w N A c N.n.toNat hlen hN hT hf hn hn6 hc (.inr (.inl ⟨ha, h0⟩))
          · by_cases hk : needK N = 0 ∨ needK N = 1 ∨ needK N = 2 ∨ needK N = 4
            · exact uniform_main w N A c N.n.toNat hlen hN hT hf hn hn6 hc ha h0 hk hin
            · exact uniform_no2 w N A c N.n.toNat hlen hN hT hf hn hn6 hc (.inr (.inr ⟨ha, h0, hk⟩))
      · exact uniform_no w N A c hlen hN hT (.inr (.inr ⟨hf, by omega, hc⟩))
end Go.Proofs.YtgnobohfnhpkdaaGreatDoor
