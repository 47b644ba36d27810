/- A sum of a net is the sum over all assignments. -/
import Derived.Test.YtcgejdlfiemjaaaDoorE1
set_option linter.unusedSimpArgs false
set_option linter.unusedVariables false
open Go Go.RowKit Cs
namespace Cs
section
variable {α : Type} (R : Rg α)
/-- The sum of f 0 .. f (m - 1). -/
def Rg.sumTo (f : Nat → α) : Nat → α
  | 0 => R.zero
  | m + 1 => R.add (Rg.sumTo f m) (f m)
/-- The weights 1 of the literals that are true in s, and 0 of the others. -/
def Rg.ind (s : Nat) : Int → α := fun l => if 0 < l then (if s.testBit (l - 1).toNat then R.one else R.zero) else (if s.testBit (-l - 1).toNat then R.zero else R.one)
/-- The weights W, and those of s for the first k variables. -/
def Rg.mix (W : Int → α) (k s : Nat) : Int → α := fun l => if 1 ≤ l.natAbs ∧ l.natAbs ≤ k then R.ind s l else W l
/-- The weight of the first k literals of s. -/
def Rg.term (W : Int → α) : Nat → Nat → α
  | 0, _ => R.one
  | k + 1, s => R.mul (Rg.term W k s) (if s.testBit k then W ((k : Int) + 1) else W (-((k : Int) + 1)))
/-- How often an assignment is counted. -/
def Rg.mult (N : Nt) (s : Nat) : α := (R.wit (R.ind s)).sum N
variable {R}
theorem sumTo_congr (f g : Nat → α) : ∀ m, (∀ i, i < m → f i = g i) → R.sumTo f m = R.sumTo g m
  | 0, _ => rfl
  | m + 1, h => by
    show R.add (R.sumTo f m) (f m) = R.add (R.sumTo g m) (g m)
    rw [sumTo_congr f g m fun i hi => h i (by omega), h m (by omega)]
theorem sumTo_more (C : CR R) (f : Nat → α) (m : Nat) : ∀ n, R.sumTo f (m + n) = R.add (R.sumTo f m) (R.sumTo (fun i => f (m + i)) n)
  | 0 => (C.addz _).symm
  | n + 1 => by
    show R.add (R.sumTo f (m + n)) (f (m + n)) = R.add _ (R.add _ _)
    rw [sumTo_more C f m n, C.adda]
theorem sumTo_add (C : CR R) (f g : Nat → α) : ∀ m, R.sumTo (fun i => R.add (f i) (g i)) m = R.add (R.sumTo f m) (R.sumTo g m)
  | 0 => (C.zadd _).symm
  | m + 1 => by
    show R.add (R.sumTo _ m) _ = _
    rw [sumTo_add C f g m]
    exact C.add4 _ _ _ _
theorem sumTo_mul (C : CR R) (c : α) (f : Nat → α) : ∀ m, R.sumTo (fun i => R.mul c (f i)) m = R.mul c (R.sumTo f m)
  | 0 => (C.mulz _).symm
  | m + 1 => by
    show R.add (R.sumTo _ m) _ = R.mul c (R.add _ _)
    rw [sumTo_mul C c f m, C.dist]
theorem sumTo_zero (C : CR R) (f : Nat → α) : ∀ m, (∀ i, i < m → f i = R.zero) → R.sumTo f m = R.zero
  | 0, _ => rfl
  | m + 1, h => by
    show R.add (R.sumTo f m) (f m) = _
    rw [sumTo_zero C f m fun i hi => h i (by omega), h m (by omega), C.zadd]
theorem sumTo_swap (C : CR R) (f : Nat → Nat → α) (n : Nat) : ∀ m, R.sumTo (fun i => R.sumTo (fun j => f i j) n) m = R.sumTo (fun j => R.sumTo (fun i => f i j) m) n
  | 0 => (sumTo_zero C _ n fun i _ => rfl).symm
  | m + 1 => by
    show R.add (R.sumTo _ m) (R.sumTo _ n) = _
    rw [sumTo_swap C f n m, ← sumTo_add C]; rfl
/-- Twice as many. -/
theorem sumTo_two (C : CR R) (f : Nat → α) (k : Nat) : R.sumTo f (2 ^ (k + 1)) = R.sumTo (fun s => R.add (f s) (f (s + 2 ^ k))) (2 ^ k) := by
  rw [show 2 ^ (k + 1) = 2 ^ k + 2 ^ k by rw [Nat.pow_succ]; omega, sumTo_more C, ← sumTo_add C]
  exact sumTo_congr _ _ _ fun i _ => by rw [Nat.add_comm (2 ^ k) i]
theorem bit_high {s k : Nat} (h : s < 2 ^ k) : (s + 2 ^ k).testBit k = true ∧ s.testBit k = false ∧ ∀ i, i < k → (s + 2 ^ k).testBit i = s.testBit i := by
  refine ⟨?_, Nat.testBit_lt_two_pow h, fun i hi => ?_⟩
  · rw [Nat.add_comm, Nat.testBit_two_pow_add_eq, Nat.testBit_lt_two_pow h]; rfl
  · rw [Nat.add_comm, Nat.testBit_two_pow_add_gt hi]
theorem term_congr (W : Int → α) : ∀ (k s t : Nat), (∀ i, i < k → s.testBit i = t.testBit i) → R.term W k s = R.term W k t
  | 0, _, _, _ => rfl
  | k + 1, s, t, h => by
    show R.mul (R.term W k s) _ = R.mul (R.term W k t) _
    rw [term_congr W k s t fun i hi => h i (by omega), h k (by omega)]
theorem ind_congr (s t k : Nat) (l : Int) (h : ∀ i, i < k → s.testBit i = t.testBit i) (h1 : 1 ≤ l.natAbs) (h2 : l.natAbs ≤ k) : R.ind s l = R.ind t l := by
  unfold Rg.ind
  by_cases h0 : 0 < l
  · rw [if_pos h0, if_pos h0, h (l - 1).toNat (by omega)]
  · rw [if_neg h0, if_neg h0, h (-l - 1).toNat (by omega)]
theorem wit_congr (W V : Int → α) (h : ∀ l, W l = V l) : R.wit W = R.wit V := by rw [show W = V from funext h]
/-- One variable more. -/
theorem mix_step (C : CR R) {N : Nt} (hv : vld N = true) (hd : dcmp N = true) (W : Int → α) (k s : Nat) (hk : (k : Int) < N.n) (hs : s < 2 ^ k) :
    (R.wit (R.mix W k s)).sum N = R.add (R.mul (W (-((k : Int) + 1))) ((R.wit (R.mix W (k + 1) s)).sum N)) (R.mul (W ((k : Int) + 1)) ((R.wit (R.mix W (k + 1) (s + 2 ^ k))).sum N)) := by
  obtain ⟨b1, b2, b3⟩ := bit_high hs
  have h := lin_sum (R.mix W k s) C hv hd k hk (W ((k : Int) + 1)) (W (-((k : Int) + 1)))
  have e0 : R.wit (setW (R.mix W k s) ((k : Int) + 1) (W ((k : Int) + 1)) (W (-((k : Int) + 1)))) = R.wit (R.mix W k s) := wit_congr _ _ fun l => by
    unfold setW Rg.mix
    by_cases h1 : l = (k : Int) + 1
    · rw [if_pos h1, if_neg (by omega), h1]
    · by_cases h2 : l = -((k : Int) + 1)
      · rw [if_neg h1, if_pos h2, if_neg (by omega), h2]
      · rw [if_neg h1, if_neg h2]
  have e1 : R.wit (setW (R.mix W k s) ((k : Int) + 1) R.one R.zero) = R.wit (R.mix W (k + 1) (s + 2 ^ k)) := wit_congr _ _ fun l => by
    unfold setW Rg.mix
    by_cases h1 : l = (k : Int) + 1
    · rw [if_pos h1, if_pos (by omega)]
      unfold Rg.ind
      rw [if_pos (by omega), show (l - 1).toNat = k by omega, b1]; rfl
    · by_cases h2 : l = -((k : Int) + 1)
      · rw [if_neg h1, if_pos h2, if_pos (by omega)]
        unfold Rg.ind
        rw [if_neg (by omega), show (-l - 1).toNat = k by omega, b1]; rfl
      · rw [if_neg h1, if_neg h2]
        by_cases h3 : 1 ≤ l.natAbs ∧ l.natAbs ≤ k
        · rw [if_pos h3, if_pos (by omega)]
          exact ind_congr _ _ k l (fun i hi => (b3 i hi).symm) h3.1 h3.2
        · rw [if_neg h3, if_neg (by omega)]
  have e2 : R.wit (setW (R.mix W k s) ((k : Int) + 1) R.zero R.one) = R.wit (R.mix W (k + 1) s) := wit_congr _ _ fun l => by
    unfold setW Rg.mix
    by_cases h1 : l = (k : Int) + 1
    · rw [if_pos h1, if_pos (by omega)]
      unfold Rg.ind
      rw [if_pos (by omega), show (l - 1).toNat = k by omega, b2]; rfl
    · by_cases h2 : l = -((k : Int) + 1)
      · rw [if_neg h1, if_pos h2, if_pos (by omega)]
        unfold Rg.ind
        rw [if_neg (by omega), show (-l - 1).toNat = k by omega, b2]; rfl
      · rw [if_neg h1, if_neg h2]
        by_cases h3 : 1 ≤ l.natAbs ∧ l.natAbs ≤ k
        · rw [if_pos h3, if_pos (by omega)]
        · rw [if_neg h3, if_neg (by omega)]
  rw [e0, e1, e2] at h
  rw [h, C.addc]
theorem expand_to (C : CR R) {N : Nt} (hv : vld N = true) (hd : dcmp N = true) (W : Int → α) : ∀ k : Nat, (k : Int) ≤ N.n →
    (R.wit W).sum N = R.sumTo (fun s => R.mul (R.term W k s) ((R.wit (R.mix W k s)).sum N)) (2 ^ k)
  | 0, _ => by
    have e : R.wit (R.mix W 0 0) = R.wit W := wit_congr _ _ fun l => by unfold Rg.mix; rw [if_neg (by omega)]
    show _ = R.add R.zero (R.mul R.one ((R.wit (R.mix W 0 0)).sum N))
    rw [C.zadd, C.omul, e]
  | k + 1, hk => by
    rw [expand_to C hv hd W k (by omega), sumTo_two C]
    refine sumTo_congr _ _ _ fun s hs => ?_
    obtain ⟨b1, b2, b3⟩ := bit_high hs
    have t1 : R.term W (k + 1) s = R.mul (R.term W k s) (W (-((k : Int) + 1))) := by
      show R.mul _ (if s.testBit k then _ else _) = _
      rw [b2]; rfl
    have t2 : R.term W (k + 1) (s + 2 ^ k) = R.mul (R.term W k s) (W ((k : Int) + 1)) := by
      show R.mul (R.term W k (s + 2 ^ k)) (if (s + 2 ^ k).testBit k then _ else _) = _
      rw [b1, term_congr W k (s + 2 ^ k) s b3]; rfl
    show R.mul (R.term W k s) _ = R.add (R.mul (R.term W (k + 1) s) _) (R.mul (R.term W (k + 1) (s + 2 ^ k)) _)
    rw [mix_step C hv hd W k s (by omega) hs, t1, t2, C.dist, C.mula, C.mula]
/-- The weights of the literals over 1 to n are all that a sum asks for. -/
theorem wit_sum {N : Nt} (hv : vld N = true) (W V : Int → α) (h : ∀ l, litOk l N.n = true → W l = V l) : (R.wit W).sum N = (R.wit V).sum N :=
  Rv.sum (r := Eq) ⟨rfl, rfl, fun a b c d h1 h2 => by rw [h1, h2]; rfl, fun a b c d h1 h2 => by rw [h1, h2]; rfl, h, fun v h1 h2 => by
    obtain ⟨h3, h4⟩ := litOk_pos' h1 h2 (vld_bounds hv).2.1
    show R.add _ _ = R.add _ _
    rw [h _ h3, h _ h4]⟩ hv
/-- A sum is the sum over all assignments. -/
theorem expand (C : CR R) {N : Nt} (hv : vld N = true) (hd : dcmp N = true) (W : Int → α) (n : Nat) (hn : N.n = (n : Int)) :
    (R.wit W).sum N = R.sumTo (fun s => R.mul (R.term W n s) (R.mult N s)) (2 ^ n) := by
  rw [expand_to C hv hd W n (by omega)]
  refine sumTo_congr _ _ _ fun s hs => ?_
  congr 1
  refine wit_sum hv _ _ fun l hl => ?_
  have := litOk_rng' hl
  unfold Rg.mix
  rw [if_pos (by omega)]
end
end Cs
