/- Plain facts: over all bytes, each model is drawn equally often. -/
import Derived.Test.YtgnobohfnhpkdaaGreatDoorYl
set_option linter.unusedSimpArgs false
set_option linter.unusedVariables false
open Go Go.RowKit Cs
namespace Cs
theorem draw_cnt {N : Nt} {n : Nat} (hn : N.n = (n : Int)) (hc : cchk N = 0) : vld N = true ∧ dcmp N = true ∧ cntN N = totN N n (onesP n) (onesP n) := by
  have hv := cchk_vld hc
  obtain ⟨hd, _⟩ := cchk_zero hv hc
  refine ⟨hv, hd, ?_⟩
  unfold cntN
  rw [if_pos hc, ones_tot hv hn]
theorem ones_term (n a : Nat) : (RN 0).term (WN n (onesP n) (onesP n)) n a = 1 := by
  refine term_all _ a n fun i hi => ?_
  have h1 : ∀ l : Int, 1 ≤ l.natAbs → l.natAbs ≤ n → WN n (onesP n) (onesP n) l = 1 := fun l h1 h2 => by
    unfold WN
    rw [ones_plit n l h1 h2]
  split
  · exact h1 _ (by omega) (by omega)
  · exact h1 _ (by omega) (by omega)
theorem drawn_model {N : Nt} {n : Nat} (hn : N.n = (n : Int)) (hc : cchk N = 0) (hdet : ∀ s, s < 2 ^ n → detAt N s = true) (bs : List Nat) (r u : Nat) (hd : drawN (cntN N) bs = some (r, u)) : choiceN N n (onesP n) (onesP n) r < 2 ^ n ∧ evB N (choiceN N n (onesP n) (onesP n) r) = true ∧ r = offN N n (onesP n) (onesP n) (choiceN N n (onesP n) (onesP n) r) n := by
  obtain ⟨hv, hdc, e⟩ := draw_cnt hn hc
  have hr := (drawN_at hd).2.1
  rw [e] at hr
  obtain ⟨h1, h2, h3, h4⟩ := choice_pos hv hdc hn (ones_whIn n) r hr
  rw [ones_term, Nat.one_mul, mlt_ev hv _ (hdet _ h1)] at h2 h3
  have hb : evB N (choiceN N n (onesP n) (onesP n) r) = true := by
    cases hb : evB N (choiceN N n (onesP n) (onesP n) r)
    · rw [hb] at h2; exact absurd h2 (by decide)
    · rfl
  rw [hb] at h3
  exact ⟨h1, hb, by unfold b1 at h3; simp at h3; omega⟩
end Cs
