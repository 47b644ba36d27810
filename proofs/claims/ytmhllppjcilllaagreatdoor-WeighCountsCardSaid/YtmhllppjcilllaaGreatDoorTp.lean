import Derived.Test.YtmhllppjcilllaaGreatDoorQ1
set_option linter.unusedSimpArgs false
set_option linter.unusedVariables false
open Go Go.RowKit Cs
namespace Cs
section
variable {α : Type} {R : Rg α}
theorem term_null (C : CR R) (W : Int → α) (s j : Nat) (hj : (if s.testBit j then W ((j : Int) + 1) else W (-((j : Int) + 1))) = R.zero) : ∀ k, j < k → R.term W k s = R.zero
 | 0, h => absurd h (by omega)
 | k + 1, h => by
   show R.mul (R.term W k s) _ = _;rcases Nat.lt_or_ge j k with h1 | h1
   ·rw [term_null C W s j hj k h1, C.zmul]
   ·obtain rfl : j = k := by omega
    rw [hj, C.mulc, C.zmul]
theorem term_like (W V : Int → α) (s : Nat) : ∀ k, (∀ i, i < k → (if s.testBit i then W ((i : Int) + 1) else W (-((i : Int) + 1))) = (if s.testBit i then V ((i : Int) + 1) else V (-((i : Int) + 1)))) → R.term W k s = R.term V k s
 | 0, _ => rfl
 | k + 1, h => by
   show R.mul (R.term W k s) _ = R.mul (R.term V k s) _;rw [term_like W V s k (fun i hi => h i (by omega)), h k (by omega)]
theorem sum_parts (C : CR R) {N : Nt} (hv : vld N = true) (hd : dcmp N = true) (W Wl Wh : Int → α) (n : Nat) (hn : N.n = (n : Int)) (v : Nat) (h1 : 1 ≤ v) (h2 : v ≤ n)
  (hl : ∀ l, l ≠ (v : Int) → Wl l = W l) (hl0 : Wl (v : Int) = R.zero) (hh : ∀ l, l ≠ -(v : Int) → Wh l = W l) (hh0 : Wh (-(v : Int)) = R.zero) :
  (R.wit W).sum N = R.add ((R.wit Wl).sum N) ((R.wit Wh).sum N) := by
 rw [expand C hv hd W n hn, expand C hv hd Wl n hn, expand C hv hd Wh n hn, ← sumTo_add C];refine sumTo_congr _ _ _ fun s _ => ?_
 have ev : ((v - 1 : Nat) : Int) + 1 = (v : Int) := by omega
 cases hb : s.testBit (v - 1)
 ·have e1 : R.term Wh n s = R.zero := term_null C Wh s (v - 1) (by rw [hb, ev]; exact hh0) n (by omega)
  have e2 : R.term Wl n s = R.term W n s := term_like Wl W s n fun i hi => by
   split
   ·rename_i h;refine hl _ fun e => ?_
    have : i = v - 1 := by omega
    rw [this, hb] at h;cases h
   ·exact hl _ (by omega)
  rw [e1, e2, C.zmul, C.addc, C.zadd]
 ·have e1 : R.term Wl n s = R.zero := term_null C Wl s (v - 1) (by rw [hb, ev]; exact hl0) n (by omega)
  have e2 : R.term Wh n s = R.term W n s := term_like Wh W s n fun i hi => by
   split
   ·exact hh _ (by omega)
   ·rename_i h;refine hh _ fun e => ?_
    have : i = v - 1 := by omega
    rw [this, hb] at h;exact h rfl
  rw [e1, e2, C.zmul, C.zadd]
end
end Cs
