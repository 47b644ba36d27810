/- Plain facts: over all bytes, each model is drawn equally often. -/
import Derived.Test.YtgnobohfnhpkdaaGreatDoorYl
set_option linter.unusedSimpArgs false
set_option linter.unusedVariables false
open Go Go.RowKit Cs
namespace Cs
/-- Whether a number is drawn from one byte, k bits at once. -/
def hitB (c k r b : Nat) : Bool := match drawF [b] c k 9 0 with
  | some (x, _) => decide (x = r)
  | none => false
def hitN (c k r : Nat) : Nat := (List.range 256).countP (hitB c k r)
def evenL : List (Nat × Nat) := [(1, 0), (2, 1), (3, 2), (4, 2), (9, 4), (10, 4), (11, 4), (12, 4), (13, 4), (14, 4), (15, 4), (16, 4)]
theorem hit_even : ∀ p ∈ evenL, ∀ r, r < p.1 → hitN p.1 p.2 r = hitN p.1 p.2 0 ∧ 0 < hitN p.1 p.2 0 := by decide +kernel
def smallB (c k : Nat) : Bool := !(decide (0 < c) && (decide (k = 0) || decide (k = 1) || decide (k = 2) || decide (k = 4))) || evenL.contains (c, k)
theorem small_all : ∀ c, c < 17 → smallB c (nd 2 (c - 1)) = true := by decide +kernel
theorem nd_small (c : Nat) (hc : c < 17) (h0 : 0 < c) (h : nd 2 (c - 1) = 0 ∨ nd 2 (c - 1) = 1 ∨ nd 2 (c - 1) = 2 ∨ nd 2 (c - 1) = 4) : (c, nd 2 (c - 1)) ∈ evenL := by
  have h2 := small_all c hc
  generalize nd 2 (c - 1) = k at *
  unfold smallB at h2
  have h3 : (decide (0 < c) && (decide (k = 0) || decide (k = 1) || decide (k = 2) || decide (k = 4))) = true := by
    simp only [Bool.and_eq_true, Bool.or_eq_true, decide_eq_true_eq]
    omega
  rw [h3] at h2
  simpa using h2
theorem dw_tkD {N : Nt} (h0 : cchk N = 0) (h1 : cntN N ≠ 0) (bs : List Nat) : dwR N bs = tkD N N.n.toNat (onesP N.n.toNat) (onesP N.n.toNat) (drawN (cntN N) bs) := by
  unfold dwR
  rw [if_pos h0, if_neg h1]
theorem nd_few {c : Nat} (h : nd 2 (c - 1) = 0 ∨ nd 2 (c - 1) = 1 ∨ nd 2 (c - 1) = 2 ∨ nd 2 (c - 1) = 4) : c < 17 := by
  have : c - 1 < 2 ^ 4 := (nd_le_iff 2 (by decide) 4 (c - 1)).1 (by omega)
  omega
/-- How often a set is drawn, over the first k bytes. -/
def manyN (N : Nt) (k j : Nat) : Nat := (List.range k).countP fun b => (dwR N [b]).ok && decide ((dwR N [b]).a = j)
theorem manyN_succ (N : Nt) (k j : Nat) : manyN N (k + 1) j = manyN N k j + if ((dwR N [k]).ok && decide ((dwR N [k]).a = j)) = true then 1 else 0 := by
  unfold manyN
  rw [List.range_succ, List.countP_append]
  congr 1
  rw [List.countP_cons, List.countP_nil, Nat.zero_add]
theorem countP_eq (f g : Nat → Bool) (l : List Nat) (h : ∀ b ∈ l, f b = g b) : l.countP f = l.countP g := List.countP_congr fun b hb => by rw [h b hb]
theorem manyN_le (N : Nt) (k j : Nat) : manyN N k j ≤ k := by
  unfold manyN
  refine Nat.le_trans List.countP_le_length ?_
  rw [List.length_range]; exact Nat.le_refl _
theorem draw_cnt {N : Nt} {n : Nat} (hn : N.n = (n : Int)) (hc : cchk N = 0) : vld N = true ∧ dcmp N = true ∧ cntN N = totN N n (onesP n) (onesP n) := by
  have hv := cchk_vld hc
  obtain ⟨hd, _⟩ := cchk_zero hv hc
  refine ⟨hv, hd, ?_⟩
  unfold cntN
  rw [if_pos hc, ones_tot hv hn]
theorem ones_term (n a : Nat) : (RN 0).term (WN n (onesP n) (onesP n)) n a = 1 := by
  refine term_all _ a n fun i hi => ?_
  have h1 : ∀ l : Int, 1 ≤ l.natAbs → l.natAbs ≤ n → WN n (onesP n) (onesP n) l = 1 := fun l h1 h2 => by
    unfold WN
    rw [ones_plit n l h1 h2]
  split
  · exact h1 _ (by omega) (by omega)
  · exact h1 _ (by omega) (by omega)
/-- What is drawn is a model. -/
theorem drawn_model {N : Nt} {n : Nat} (hn : N.n = (n : Int)) (hc : cchk N = 0) (hdet : ∀ s, s < 2 ^ n → detAt N s = true) (bs : List Nat) (r u : Nat) (hd : drawN (cntN N) bs = some (r, u)) : choiceN N n (onesP n) (onesP n) r < 2 ^ n ∧ evB N (choiceN N n (onesP n) (onesP n) r) = true ∧ r = offN N n (onesP n) (onesP n) (choiceN N n (onesP n) (onesP n) r) n := by
  obtain ⟨hv, hdc, e⟩ := draw_cnt hn hc
  have hr := (drawN_at hd).2.1
  rw [e] at hr
  obtain ⟨h1, h2, h3, h4⟩ := choice_pos hv hdc hn (ones_whIn n) r hr
  rw [ones_term, Nat.one_mul, mlt_ev hv _ (hdet _ h1)] at h2 h3
  have hb : evB N (choiceN N n (onesP n) (onesP n) r) = true := by
    cases hb : evB N (choiceN N n (onesP n) (onesP n) r)
    · rw [hb] at h2; exact absurd h2 (by decide)
    · rfl
  rw [hb] at h3
  exact ⟨h1, hb, by unfold b1 at h3; simp at h3; omega⟩
theorem dw_hit {N : Nt} {n : Nat} (hn : N.n = (n : Int)) (hc : cchk N = 0) (hdet : ∀ s, s < 2 ^ n → detAt N s = true) (h0 : cntN N ≠ 0) (j b : Nat) (hj : j < 2 ^ n) (he : evB N j = true) : ((dwR N [b]).ok && decide ((dwR N [b]).a = j)) = hitB (cntN N) (nd 2 (cntN N - 1)) (offN N n (onesP n) (onesP n) j n) b := by
  obtain ⟨hv, hdc, e⟩ := draw_cnt hn hc
  have hnn : N.n.toNat = n := by omega
  rw [dw_tkD hc h0]
  unfold hitB
  have ed : drawN (cntN N) [b] = drawF [b] (cntN N) (nd 2 (cntN N - 1)) 9 0 := rfl
  rw [← ed, hnn]
  rcases hd : drawN (cntN N) [b] with _ | ⟨r, u⟩
  · rfl
  · obtain ⟨h1, h2, h3⟩ := drawn_model hn hc hdet [b] r u hd
    show (true && decide (choiceN N n (onesP n) (onesP n) r = j)) = decide (r = offN N n (onesP n) (onesP n) j n)
    rw [Bool.true_and]
    refine decide_eq_decide.2 ⟨fun e2 => ?_, fun e2 => ?_⟩
    · rw [← e2]; exact h3
    · rw [e2]
      refine (choice_off hv hdc hn (ones_whIn n) j hj ?_).1
      rw [ones_term, Nat.one_mul, mlt_ev hv _ (hdet _ hj), he]
      decide
/-- Each model is drawn equally often, and nothing else. -/
theorem many_even {N : Nt} {n : Nat} (hn : N.n = (n : Int)) (hc : cchk N = 0) (hdet : ∀ s, s < 2 ^ n → detAt N s = true) (h0 : cntN N ≠ 0) (hk : nd 2 (cntN N - 1) = 0 ∨ nd 2 (cntN N - 1) = 1 ∨ nd 2 (cntN N - 1) = 2 ∨ nd 2 (cntN N - 1) = 4) :
    ∃ V, 0 < V ∧ V ≤ 256 ∧ ∀ j, (j < 2 ^ n ∧ evB N j = true → manyN N 256 j = V) ∧ (¬ (j < 2 ^ n ∧ evB N j = true) → manyN N 256 j = 0) := by
  obtain ⟨hv, hdc, e⟩ := draw_cnt hn hc
  have hlt := nd_few hk
  have hm := nd_small _ hlt (by omega) hk
  have hev := hit_even _ hm
  simp only at hev
  have hp := (hev 0 (by omega)).2
  refine ⟨hitN (cntN N) (nd 2 (cntN N - 1)) 0, hp, ?_, fun j => ⟨fun ⟨h1, h2⟩ => ?_, fun h => ?_⟩⟩
  · unfold hitN
    refine Nat.le_trans List.countP_le_length ?_
    rw [List.length_range]; exact Nat.le_refl _
  · have hoff : offN N n (onesP n) (onesP n) j n < cntN N := by
      rw [e]
      refine (choice_off hv hdc hn (ones_whIn n) j h1 ?_).2
      rw [ones_term, Nat.one_mul, mlt_ev hv _ (hdet _ h1), h2]
      decide
    rw [← (hev _ hoff).1]
    unfold manyN hitN
    exact countP_eq _ _ _ fun b _ => dw_hit hn hc hdet h0 j b h1 h2
  · unfold manyN
    rw [List.countP_eq_zero]
    intro b _
    rw [dw_tkD hc h0]
    have hnn : N.n.toNat = n := by omega
    rw [hnn]
    rcases hd : drawN (cntN N) [b] with _ | ⟨r, u⟩
    · simp [tkD, Tk.no]
    · obtain ⟨h1, h2, h3⟩ := drawn_model hn hc hdet [b] r u hd
      show ¬ (true && decide (choiceN N n (onesP n) (onesP n) r = j)) = true
      rw [Bool.true_and, decide_eq_true_eq]
      intro e2
      rw [e2] at h1 h2
      exact h ⟨h1, h2⟩
/-- The set of each draw is small. -/
theorem dw_small {N : Nt} {n : Nat} (hn : N.n = (n : Int)) (hc : cchk N = 0) (hdet : ∀ s, s < 2 ^ n → detAt N s = true) (h0 : cntN N ≠ 0) (b : Nat) : (dwR N [b]).e = 0 ∧ ((dwR N [b]).ok = true → (dwR N [b]).a < 2 ^ n) := by
  rw [dw_tkD hc h0]
  have hnn : N.n.toNat = n := by omega
  rw [hnn]
  rcases hd : drawN (cntN N) [b] with _ | ⟨r, u⟩
  · exact ⟨rfl, fun h => by cases h⟩
  · exact ⟨rfl, fun _ => (drawn_model hn hc hdet [b] r u hd).1⟩
/-- Without models the count is 0. -/
theorem cnt_none {N : Nt} {n : Nat} (hn : N.n = (n : Int)) (hc : cchk N = 0) (hdet : ∀ s, s < 2 ^ n → detAt N s = true) (h0 : cntN N = 0) : ∀ s, s < 2 ^ n → evB N s = false := fun s hs => by
  have hv := cchk_vld hc
  obtain ⟨hd, _⟩ := cchk_zero hv hc
  unfold cntN at h0
  rw [if_pos hc, cnt_sum hv hd n hn] at h0
  have h1 : ∀ m, sN (mlt N) m = 0 → ∀ i, i < m → mlt N i = 0 := fun m => by
    induction m with
    | zero => intro _ i hi; omega
    | succ m ih =>
      intro h i hi
      rw [sN_succ] at h
      rcases Nat.lt_or_ge i m with h2 | h2
      · exact ih (by omega) i h2
      · obtain rfl : i = m := by omega
        omega
  have h2 := h1 _ h0 s hs
  rw [mlt_ev hv s (hdet s hs)] at h2
  cases h3 : evB N s
  · rfl
  · rw [h3] at h2; cases h2
end Cs
