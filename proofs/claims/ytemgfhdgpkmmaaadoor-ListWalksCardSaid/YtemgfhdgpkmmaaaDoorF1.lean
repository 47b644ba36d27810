/- Plain facts: ranks are one to one; the net that is always true. -/
import Derived.Test.YtemgfhdgpkmmaaaDoorLB
set_option linter.unusedSimpArgs false
set_option linter.unusedVariables false
open Go Go.RowKit Cs
namespace Cs
theorem F_lt (N : Nt) (n a b : Nat) (ha : a < 2 ^ n) (h : key a < key b) : F N n (key a) + mlt N a ≤ F N n (key b) := by
  have h1 := sN_one (mlt N a) a (2 ^ n)
  rw [if_pos ha] at h1
  unfold F
  rw [← h1, ← sN_add]
  refine sN_le _ _ _ fun s _ => ?_
  by_cases hs : s = a
  · subst hs
    rw [if_neg (Nat.lt_irrefl _), if_pos rfl, if_pos h]; omega
  · rw [if_neg hs, Nat.add_zero]
    by_cases h2 : key s < key a
    · rw [if_pos h2, if_pos (by omega)]; exact Nat.le_refl _
    · rw [if_neg h2]; exact Nat.zero_le _
section
variable {N : Nt} (hv : vld N = true) (hd : dcmp N = true) (n : Nat) (hn : N.n = (n : Int))
include hv hd hn
/-- The set at a place is one alone. -/
theorem at_only (a b k : Nat) (ha : a < 2 ^ n) (hb : b < 2 ^ n) (h1 : rankN N a ≤ k) (h2 : k < rankN N a + mlt N a) (h3 : rankN N b ≤ k) (h4 : k < rankN N b + mlt N b) : a = b := by
  obtain ⟨h0, h128, _, _⟩ := vld_bounds hv
  have hia : In N.n a := by rw [hn]; exact In.of_lt ha
  have hib : In N.n b := by rw [hn]; exact In.of_lt hb
  rw [rank_F hv hd n hn a hia] at h1 h2
  rw [rank_F hv hd n hn b hib] at h3 h4
  refine key_inj (hia.isSet h128) (hib.isSet h128) ?_
  rcases Nat.lt_trichotomy (key a) (key b) with h | h | h
  · have := F_lt N n a b ha h; omega
  · exact h
  · have := F_lt N n b a hb h; omega
theorem at_is (a k : Nat) (ha : a < 2 ^ n) (h1 : rankN N a ≤ k) (h2 : k < rankN N a + mlt N a) : atN N k = ⟨a, true⟩ := by
  have h := at_spec hv hd n hn k
  have hia : In N.n a := by rw [hn]; exact In.of_lt ha
  have hlt : k < F N n (2 ^ 128) := by
    have h3 := F_all N n (2 ^ 128) (Nat.le_refl _)
    have h4 : F N n (key a) + mlt N a ≤ F N n (2 ^ 128) := by
      have h5 := F_mlt hv hd n hn a ha
      rw [kp_full hv n hn a hia] at h5
      rw [← h5]
      refine F_mono N n ?_
      have := key_lt_all a
      have h6 := kp_bounds a n (by obtain ⟨_, h, _, _⟩ := vld_bounds hv; omega)
      rw [kp_full hv n hn a hia] at h6
      have h7 := kp_le a 0 n (by obtain ⟨_, h, _, _⟩ := vld_bounds hv; omega)
      rw [Nat.zero_add, kp_zero, kp_full hv n hn a hia] at h7
      simp only [Nat.zero_add, Nat.sub_zero] at h7
      omega
    rw [rank_F hv hd n hn a hia] at h2
    omega
  rw [if_neg (by omega)] at h
  obtain ⟨b, hb, e, h3, h4⟩ := h
  rw [e, at_only hv hd n hn b a k hb ha h3 h4 h1 h2]
end
/-- The net that is always true. -/
def trueN (m : Nat) : Nt := ⟨(m : Int), [⟨1, 0, []⟩]⟩
theorem trueN_vld (m : Nat) (hm : m ≤ 128) : vld (trueN m) = true := by
  unfold vld trueN
  simp only [List.length_cons, List.length_nil, Bool.and_eq_true, decide_eq_true_eq]
  exact ⟨by omega, rfl⟩
theorem trueN_dcmp (m : Nat) : dcmp (trueN m) = true := rfl
theorem trueN_ev (m s : Nat) : evB (trueN m) s = true := rfl
theorem trueN_short (m : Nat) : shortB (trueN m) = true := by
  show okNodes (own [⟨1, 0, []⟩]) [] [⟨1, 0, []⟩] = true
  decide +kernel
theorem minus_zero (s : Nat) : minus s 0 = s := by unfold minus; simp
theorem trueN_cf (m a f : Nat) : cfN (trueN m) a f = 2 ^ crd (minus (allTo (m : Int)) f) := by
  have e : cfN (trueN m) a f = 1 * 2 ^ crd (minus (minus (allTo (m : Int)) 0) f) := by
    unfold cfN Rg.sum
    rw [RW_gap]; rfl
  rw [e, Nat.one_mul, minus_zero]
theorem crd_upto (m v : Nat) (hm : m ≤ 128) (hv : v ≤ m) : crd (minus (allTo (m : Int)) (allTo (v : Int))) = m - v := by
  have h := crd_minus (allTo (m : Int)) (allTo (v : Int)) fun i hi => by
    rw [allTo_bit] at hi ⊢
    have := of_decide_eq_true hi
    exact decide_eq_true (by omega)
  rw [crd_all _ (by omega) (by omega), crd_all _ (by omega) (by omega)] at h
  omega
/-- The binary digits of a place, read off a set. -/
def hor (a : Nat) : Nat → Nat
  | 0 => 0
  | i + 1 => 2 * hor a i + if a.testBit i then 1 else 0
theorem hor_sum (a m : Nat) : ∀ i, i ≤ m → sN (fun j => if a.testBit j then 2 ^ (m - (j + 1)) else 0) i = hor a i * 2 ^ (m - i)
  | 0, _ => by simp [hor]; rfl
  | i + 1, h => by
    rw [sN_succ, hor_sum a m i (by omega)]
    have e : 2 ^ (m - i) = 2 * 2 ^ (m - (i + 1)) := by
      rw [show m - i = (m - (i + 1)) + 1 by omega, Nat.pow_succ, Nat.mul_comm]
    rw [e]
    show _ = (2 * hor a i + if a.testBit i then 1 else 0) * _
    rw [Nat.add_mul, ← Nat.mul_assoc, Nat.mul_comm (hor a i) 2]
    congr 1
    split <;> simp
theorem trueN_rank (m a : Nat) (hm : m ≤ 128) (ha : a < 2 ^ m) : rankN (trueN m) a = hor a m := by
  unfold rankN
  rw [foldl_vl, sN_none _ m 128 hm (fun i hi => by rw [in_bit (In.of_lt ha) hi]; rfl)]
  have h := hor_sum a m m (Nat.le_refl _)
  rw [Nat.sub_self, Nat.pow_zero, Nat.mul_one] at h
  rw [← h]
  refine sN_congr _ _ _ fun j hj => ?_
  rw [trueN_cf, show ((j : Int) + 1) = ((j + 1 : Nat) : Int) by omega, crd_upto m (j + 1) hm (by omega)]
theorem trueN_mlt (m s : Nat) (hm : m ≤ 128) : mlt (trueN m) s = 1 := by
  rw [mlt_ev (trueN_vld m hm) s (by unfold detAt; rfl), trueN_ev]; rfl
theorem trueN_at (m a : Nat) (hm : m ≤ 128) (ha : a < 2 ^ m) : atN (trueN m) (hor a m) = ⟨a, true⟩ :=
  at_is (trueN_vld m hm) (trueN_dcmp m) m rfl a _ ha (by rw [trueN_rank m a hm ha]; exact Nat.le_refl _) (by rw [trueN_rank m a hm ha, trueN_mlt m a hm]; omega)
theorem trueN_none (m : Nat) (hm : m ≤ 128) : atN (trueN m) (2 ^ m) = ⟨0, false⟩ := by
  unfold atN
  rw [if_pos]
  rw [trueN_cf, minus_zero, crd_all _ (by omega) (by omega), Int.toNat_natCast]
  exact Nat.le_refl _
theorem hor_lt (a : Nat) : ∀ i, hor a i < 2 ^ i
  | 0 => by show 0 < 1; omega
  | i + 1 => by
    have := hor_lt a i
    show 2 * hor a i + (if a.testBit i then 1 else 0) < 2 ^ (i + 1)
    rw [Nat.pow_succ]
    split <;> omega
end Cs
