/- The counts of a net as sums over assignments; the counts add up. -/
import Derived.Test.YtcgejdlfiemjaaaDoorE2
import Derived.Test.YtcgejdlfiemjaaaDoorC1
import Derived.Test.YtcgejdlfiemjaaaDoorByCard
set_option linter.unusedSimpArgs false
set_option linter.unusedVariables false
open Go Go.RowKit Cs
namespace Cs
theorem CN : CR (RN 0) where
  addc := Nat.add_comm
  adda := Nat.add_assoc
  mulc := Nat.mul_comm
  mula := Nat.mul_assoc
  zadd := Nat.zero_add
  omul := Nat.one_mul
  zmul := Nat.zero_mul
  dist := Nat.mul_add
/-- How often an assignment is counted. -/
def mlt (N : Nt) (s : Nat) : Nat := (RN 0).mult N s
/-- The sum of f 0 .. f (m - 1). -/
abbrev sN (f : Nat → Nat) (m : Nat) : Nat := (RN 0).sumTo f m
theorem sN_zero (f : Nat → Nat) : sN f 0 = 0 := rfl
theorem sN_succ (f : Nat → Nat) (m : Nat) : sN f (m + 1) = sN f m + f m := rfl
theorem sN_add (f g : Nat → Nat) (m : Nat) : sN (fun i => f i + g i) m = sN f m + sN g m := sumTo_add CN f g m
theorem sN_swap (f : Nat → Nat → Nat) (n m : Nat) : sN (fun i => sN (fun j => f i j) n) m = sN (fun j => sN (fun i => f i j) m) n := sumTo_swap CN f n m
theorem sN_mul (c : Nat) (f : Nat → Nat) (m : Nat) : sN (fun i => c * f i) m = c * sN f m := sumTo_mul CN c f m
theorem sN_congr (f g : Nat → Nat) (m : Nat) (h : ∀ i, i < m → f i = g i) : sN f m = sN g m := sumTo_congr f g m h
theorem sN_le (f g : Nat → Nat) : ∀ m, (∀ i, i < m → f i ≤ g i) → sN f m ≤ sN g m
  | 0, _ => Nat.le_refl _
  | m + 1, h => by
    rw [sN_succ, sN_succ]
    exact Nat.add_le_add (sN_le f g m fun i hi => h i (by omega)) (h m (by omega))
theorem sN_mono (f : Nat → Nat) {m n : Nat} (h : m ≤ n) : sN f m ≤ sN f n := by
  induction n with
  | zero => rw [show m = 0 by omega]; exact Nat.le_refl _
  | succ n ih =>
    rcases Nat.lt_or_ge m (n + 1) with h1 | h1
    · rw [sN_succ]; have := ih (by omega); omega
    · rw [show m = n + 1 by omega]; exact Nat.le_refl _
theorem sN_one (c t : Nat) : ∀ m, sN (fun i => if i = t then c else 0) m = if t < m then c else 0
  | 0 => by simp [sN_zero]
  | m + 1 => by
    rw [sN_succ, sN_one c t m]
    by_cases h : t < m
    · rw [if_pos h, if_neg (by omega), if_pos (by omega)]; rfl
    · by_cases h1 : m = t
      · rw [if_neg h, if_pos h1, if_pos (by omega)]; exact Nat.zero_add _
      · rw [if_neg h, if_neg h1, if_neg (by omega)]
/-- How many of the first n variables are true. -/
def pcn (n s : Nat) : Nat := sN (fun i => if s.testBit i then 1 else 0) n
theorem pcn_le (n s : Nat) : pcn n s ≤ n := by
  induction n with
  | zero => exact Nat.le_refl _
  | succ n ih =>
    show pcn n s + (if s.testBit n then 1 else 0) ≤ _
    split <;> omega
section
variable {N : Nt} (hv : vld N = true) (hd : dcmp N = true) (n : Nat) (hn : N.n = (n : Int))
include hv hd hn
theorem wit_expand (W : Int → Nat) : ((RN 0).wit W).sum N = sN (fun s => (RN 0).term W n s * mlt N s) (2 ^ n) := expand CN hv hd W n hn
omit hv hd hn in
theorem term_all (W : Int → Nat) (s : Nat) : ∀ k, (∀ i, i < k → (if s.testBit i then W ((i : Int) + 1) else W (-((i : Int) + 1))) = 1) → (RN 0).term W k s = 1
  | 0, _ => rfl
  | k + 1, h => by
    show (RN 0).term W k s * (if s.testBit k then _ else _) = 1
    rw [term_all W s k fun i hi => h i (by omega), h k (by omega)]
omit hv hd hn in
theorem term_zero (W : Int → Nat) (s : Nat) (j : Nat) (hj : (if s.testBit j then W ((j : Int) + 1) else W (-((j : Int) + 1))) = 0) : ∀ k, j < k → (RN 0).term W k s = 0
  | 0, h => absurd h (by omega)
  | k + 1, h => by
    show (RN 0).term W k s * (if s.testBit k then _ else _) = 0
    by_cases h1 : j = k
    · subst h1; rw [hj]; rfl
    · rw [term_zero W s j hj k (by omega), Nat.zero_mul]
theorem cnt_sum : (RN 0).sum N = sN (mlt N) (2 ^ n) := by
  have h := wit_expand hv hd n hn (wt 0)
  rw [show (RN 0).wit (wt 0) = RN 0 from rfl] at h
  rw [h]
  refine sN_congr _ _ _ fun s hs => ?_
  rw [term_all (wt 0) s n fun i _ => ?_, Nat.one_mul]
  unfold wt
  split <;> rw [if_neg (by omega)]
theorem low_sum (i : Nat) (hi : i < n) : (RN ((i : Int) + 1)).sum N = sN (fun s => if s.testBit i then 0 else mlt N s) (2 ^ n) := by
  have h := wit_expand hv hd n hn (wt ((i : Int) + 1))
  rw [show (RN 0).wit (wt ((i : Int) + 1)) = RN ((i : Int) + 1) from rfl] at h
  rw [h]
  refine sN_congr _ _ _ fun s hs => ?_
  by_cases hb : s.testBit i = true
  · rw [term_zero _ s i (by rw [if_pos hb]; unfold wt; rw [if_pos rfl]) n hi, Nat.zero_mul, if_pos hb]
  · rw [if_neg hb, term_all _ s n fun j _ => ?_, Nat.one_mul]
    by_cases hj : s.testBit j = true
    · rw [if_pos hj]; unfold wt; rw [if_neg]
      intro e
      have : j = i := by omega
      exact hb (this ▸ hj)
    · rw [if_neg hj]; unfold wt; rw [if_neg (by omega)]
theorem high_sum (i : Nat) (hi : i < n) : (RN (-((i : Int) + 1))).sum N = sN (fun s => if s.testBit i then mlt N s else 0) (2 ^ n) := by
  have h := wit_expand hv hd n hn (wt (-((i : Int) + 1)))
  rw [show (RN 0).wit (wt (-((i : Int) + 1))) = RN (-((i : Int) + 1)) from rfl] at h
  rw [h]
  refine sN_congr _ _ _ fun s hs => ?_
  by_cases hb : s.testBit i = true
  · rw [if_pos hb, term_all _ s n fun j _ => ?_, Nat.one_mul]
    by_cases hj : s.testBit j = true
    · rw [if_pos hj]; unfold wt; rw [if_neg (by omega)]
    · rw [if_neg hj]; unfold wt; rw [if_neg]
      intro e
      have : j = i := by omega
      exact hj (this ▸ hb)
  · rw [term_zero _ s i (by rw [if_neg hb]; unfold wt; rw [if_pos rfl]) n hi, Nat.zero_mul, if_neg hb]
theorem low_high (i : Nat) (hi : i < n) : (RN ((i : Int) + 1)).sum N + (RN (-((i : Int) + 1))).sum N = (RN 0).sum N := by
  rw [low_sum hv hd n hn i hi, high_sum hv hd n hn i hi, cnt_sum hv hd n hn, ← sN_add]
  refine sN_congr _ _ _ fun s _ => ?_
  split <;> simp
theorem highs_sum : sN (fun i => (RN (-((i : Int) + 1))).sum N) n = sN (fun s => pcn n s * mlt N s) (2 ^ n) := by
  rw [sN_congr _ _ n fun i hi => high_sum hv hd n hn i hi, sN_swap]
  refine sN_congr _ _ _ fun s _ => ?_
  show _ = sN _ n * mlt N s
  rw [Nat.mul_comm, ← sN_mul]
  refine sN_congr _ _ _ fun i _ => ?_
  split <;> simp
/-- The weights x of positive literals, and 1 of negative ones. -/
def xW (x : Nat) : Int → Nat := fun l => if 0 < l then x else 1
omit hv hd hn in
theorem xW_term (x s : Nat) : ∀ k, (RN 0).term (xW x) k s = x ^ pcn k s
  | 0 => rfl
  | k + 1 => by
    show (RN 0).term (xW x) k s * (if s.testBit k then xW x ((k : Int) + 1) else xW x (-((k : Int) + 1))) = x ^ (pcn k s + if s.testBit k then 1 else 0)
    have e1 : xW x ((k : Int) + 1) = x := by unfold xW; rw [if_pos (by omega)]
    have e2 : xW x (-((k : Int) + 1)) = 1 := by unfold xW; rw [if_neg (by omega)]
    rw [xW_term x s k, Nat.pow_add, e1, e2]
    split <;> simp
/-- A polynomial's value. -/
def pev (x : Nat) (p : List Nat) : Nat := sm (fun t => p.getD t 0 * x ^ t) p.length
omit hv hd hn in
theorem pev_more (x : Nat) (p : List Nat) (m : Nat) (h : p.length ≤ m) : sm (fun t => p.getD t 0 * x ^ t) m = pev x p :=
  sm_more _ _ m h fun i hi _ => by rw [getD_ge p i hi, Nat.zero_mul]
omit hv hd hn in
theorem pev_addP (x : Nat) (a b : List Nat) : pev x (addP a b) = pev x a + pev x b := by
  rw [← pev_more x a (addP a b).length (by rw [addP_len]; omega), ← pev_more x b (addP a b).length (by rw [addP_len]; omega), ← sm_add]
  exact sm_congr _ _ _ fun i _ => by rw [addP_get, Nat.add_mul]
omit hv hd hn in
theorem smx_cvI (x : Nat) (a b : List Nat) (i : Nat) (f : Nat → Nat) (n : Nat) : ∀ k, i + k ≤ n → sm (fun t => cvI a b i f k t * x ^ t) n = sm (fun t => f t * x ^ t) n + a.getD i 0 * x ^ i * sm (fun j => b.getD j 0 * x ^ j) k
  | 0, _ => by show sm _ n = sm _ n + _ * 0; rfl
  | k + 1, h => by
    have e : (fun t => cvI a b i f (k + 1) t * x ^ t) = fun t => cvI a b i f k t * x ^ t + if t = i + k then a.getD i 0 * b.getD k 0 * x ^ (i + k) else 0 := by
      funext t
      show (cvI a b i f k t + if t = i + k then _ else 0) * x ^ t = _
      rw [Nat.add_mul]
      congr 1
      split
      · rename_i h; rw [h]
      · exact Nat.zero_mul _
    rw [e, sm_add, smx_cvI x a b i f n k (by omega), sm_one _ _ _ (by omega)]
    show _ = _ + a.getD i 0 * x ^ i * (sm _ k + b.getD k 0 * x ^ k)
    rw [Nat.mul_add, Nat.add_assoc]
    congr 2
    rw [Nat.pow_add, Nat.mul_assoc, Nat.mul_assoc, Nat.mul_left_comm (x ^ i)]
omit hv hd hn in
theorem smx_cvO (x : Nat) (a b : List Nat) (n : Nat) : ∀ i, i + b.length ≤ n + 1 → sm (fun t => cvO a b i t * x ^ t) n = sm (fun j => a.getD j 0 * x ^ j) i * pev x b
  | 0, _ => by
    show sm (fun t => 0 * x ^ t) n = 0 * _
    rw [Nat.zero_mul, sm_zero _ n fun i _ => Nat.zero_mul _]
  | i + 1, h => by
    show sm (fun t => cvI a b i (cvO a b i) b.length t * x ^ t) n = (sm _ i + a.getD i 0 * x ^ i) * _
    rw [smx_cvI x a b i _ n _ (by omega), smx_cvO x a b n i (by omega), Nat.add_mul]; rfl
omit hv hd hn in
theorem pev_mulP (x : Nat) (a b : List Nat) : pev x (mulP a b) = pev x a * pev x b := by
  by_cases h : a.length = 0 ∨ b.length = 0
  · unfold mulP
    rw [if_pos h]
    rcases h with h | h
    · rw [List.length_eq_zero_iff.1 h]; show 0 = 0 * _; rw [Nat.zero_mul]
    · rw [List.length_eq_zero_iff.1 h]; show 0 = _ * 0; rw [Nat.mul_zero]
  · have hl := mulP_len a b (by omega) (by omega)
    unfold pev
    rw [hl]
    rw [sm_congr _ (fun t => cvO a b a.length t * x ^ t) _ fun i _ => by rw [mulP_get]]
    exact smx_cvO x a b _ a.length (by omega)
omit hv hd hn in
theorem RC_RX (x : Nat) : Rv RC ((RN 0).wit (xW x)) N.n (fun p v => pev x p = v) where
  zero := rfl
  one := by show sm _ 1 = 1; show 0 + 1 * x ^ 0 = 1; simp
  add := fun a b c d h1 h2 => by show pev x (addP a c) = b + d; rw [pev_addP, h1, h2]
  mul := fun a b c d h1 h2 => by show pev x (mulP a c) = b * d; rw [pev_mulP, h1, h2]
  lit := fun l hl => by
    have := litOk_rng' hl
    show pev x (if l < 0 then [1] else [0, 1]) = xW x l
    unfold xW
    by_cases h : l < 0
    · rw [if_pos h, if_neg (by omega)]; show 0 + 1 * x ^ 0 = 1; simp
    · rw [if_neg h, if_pos (by omega)]; show 0 + 0 * x ^ 0 + 1 * x ^ 1 = x; simp
  both := fun v h1 h2 => by
    show pev x [1, 1] = xW x v + xW x (-v)
    unfold xW
    rw [if_pos (by omega), if_neg (by omega)]
    show 0 + 1 * x ^ 0 + 1 * x ^ 1 = x + 1
    simp; omega
omit hv hd hn in
theorem sm_lt (f : Nat → Nat) (x : Nat) : ∀ m, (∀ i, i < m → f i < x) → sm (fun t => f t * x ^ t) m < x ^ m
  | 0, _ => by show 0 < x ^ 0; simp
  | m + 1, h => by
    have h1 := sm_lt f x m fun i hi => h i (by omega)
    have h2 := h m (by omega)
    show sm _ m + f m * x ^ m < _
    have h3 : (f m + 1) * x ^ m ≤ x * x ^ m := Nat.mul_le_mul_right _ h2
    rw [Nat.pow_succ, Nat.mul_comm (x ^ m) x]
    rw [Nat.add_mul, Nat.one_mul] at h3
    omega
omit hv hd hn in
theorem sm_inj (f g : Nat → Nat) (x : Nat) : ∀ m, (∀ i, i < m → f i < x) → (∀ i, i < m → g i < x) → sm (fun t => f t * x ^ t) m = sm (fun t => g t * x ^ t) m → ∀ i, i < m → f i = g i
  | 0, _, _, _, i, hi => absurd hi (by omega)
  | m + 1, hf, hg, h, i, hi => by
    have h1 := sm_lt f x m fun i hi => hf i (by omega)
    have h2 := sm_lt g x m fun i hi => hg i (by omega)
    change sm _ m + f m * x ^ m = sm _ m + g m * x ^ m at h
    have e : f m = g m := by
      have a1 := congrArg (· / x ^ m) h
      simp only [Nat.add_mul_div_right _ _ (show 0 < x ^ m by omega), Nat.div_eq_of_lt h1, Nat.div_eq_of_lt h2, Nat.zero_add] at a1
      exact a1
    rw [e] at h
    rcases Nat.lt_or_ge i m with h3 | h3
    · exact sm_inj f g x m (fun i hi => hf i (by omega)) (fun i hi => hg i (by omega)) (by omega) i h3
    · rw [show i = m by omega, e]
omit hv hd hn in
theorem sm_sN (f : Nat → Nat) : ∀ m, sm f m = sN f m
  | 0 => rfl
  | m + 1 => by rw [sN_succ, ← sm_sN f m]; rfl
/-- How many assignments with k true variables are counted. -/
theorem card_sum (k : Nat) (hk : k < n + 1) : (RC.sum N).getD k 0 = sN (fun s => if pcn n s = k then mlt N s else 0) (2 ^ n) := by
  have hlen := RC_sum_len hv hd
  have key : ∀ x, sm (fun t => (RC.sum N).getD t 0 * x ^ t) (n + 1) = sm (fun t => sN (fun s => if pcn n s = t then mlt N s else 0) (2 ^ n) * x ^ t) (n + 1) := fun x => by
    rw [pev_more x _ (n + 1) (by omega), Rv.sum (RC_RX x) hv, wit_expand hv hd n hn (xW x), sm_sN]
    have e : ∀ t, t < n + 1 → sN (fun s => if pcn n s = t then mlt N s else 0) (2 ^ n) * x ^ t = sN (fun s => if pcn n s = t then mlt N s * x ^ t else 0) (2 ^ n) := fun t _ => by
      rw [Nat.mul_comm, ← sN_mul]
      refine sN_congr _ _ _ fun s _ => ?_
      split
      · exact Nat.mul_comm _ _
      · exact Nat.mul_zero _
    rw [sN_congr _ _ _ e, sN_swap]
    refine sN_congr _ _ _ fun s _ => ?_
    rw [xW_term]
    have h2 : ∀ t, t < n + 1 → (if pcn n s = t then mlt N s * x ^ t else 0) = if t = pcn n s then mlt N s * x ^ pcn n s else 0 := fun t _ => by
      by_cases h : pcn n s = t
      · rw [if_pos h, if_pos h.symm, h]
      · rw [if_neg h, if_neg (Ne.symm h)]
    rw [sN_congr _ _ _ h2, sN_one, if_pos (Nat.lt_succ_of_le (pcn_le n s)), Nat.mul_comm]
  have hb : ∀ (f : Nat → Nat) i, i < n + 1 → f i ≤ sm f (n + 1) := fun f i hi => sm_le f (n + 1) i hi
  refine sm_inj _ _ (sm (fun t => (RC.sum N).getD t 0) (n + 1) + sm (fun t => sN (fun s => if pcn n s = t then mlt N s else 0) (2 ^ n)) (n + 1) + 1) (n + 1) (fun i hi => ?_) (fun i hi => ?_) (key _) k hk
  · have := hb (fun t => (RC.sum N).getD t 0) i hi
    omega
  · have := hb (fun t => sN (fun s => if pcn n s = t then mlt N s else 0) (2 ^ n)) i hi
    omega
theorem cards_all : sN (fun k => (RC.sum N).getD k 0) (n + 1) = (RN 0).sum N := by
  rw [sN_congr _ _ _ fun k hk => card_sum hv hd n hn k hk, sN_swap, cnt_sum hv hd n hn]
  refine sN_congr _ _ _ fun s _ => ?_
  have h2 : ∀ t, t < n + 1 → (if pcn n s = t then mlt N s else 0) = if t = pcn n s then mlt N s else 0 := fun t _ => by
    by_cases h : pcn n s = t
    · rw [if_pos h, if_pos h.symm]
    · rw [if_neg h, if_neg (Ne.symm h)]
  rw [sN_congr _ _ _ h2, sN_one, if_pos (Nat.lt_succ_of_le (pcn_le n s))]
theorem cards_times : sN (fun k => k * (RC.sum N).getD k 0) (n + 1) = sN (fun i => (RN (-((i : Int) + 1))).sum N) n := by
  rw [highs_sum hv hd n hn]
  have e : ∀ k, k < n + 1 → k * (RC.sum N).getD k 0 = sN (fun s => if k = pcn n s then pcn n s * mlt N s else 0) (2 ^ n) := fun k hk => by
    rw [card_sum hv hd n hn k hk, ← sN_mul]
    refine sN_congr _ _ _ fun s _ => ?_
    by_cases h : pcn n s = k
    · rw [if_pos h, if_pos h.symm, h]
    · rw [if_neg h, if_neg (Ne.symm h)]; exact Nat.mul_zero _
  rw [sN_congr _ _ _ e, sN_swap]
  refine sN_congr _ _ _ fun s _ => ?_
  rw [sN_one, if_pos (Nat.lt_succ_of_le (pcn_le n s))]
end
end Cs
