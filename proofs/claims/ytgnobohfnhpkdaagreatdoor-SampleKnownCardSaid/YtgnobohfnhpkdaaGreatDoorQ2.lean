/- Plain facts: the counts as sums over assignments; the truth of nets; each model of a deterministic net is counted once. -/
import Derived.Test.YtgnobohfnhpkdaaGreatDoorQ1
import Derived.Test.YtgnobohfnhpkdaaGreatDoorS2
set_option linter.unusedSimpArgs false
set_option linter.unusedVariables false
section
open Go Go.RowKit Cs
namespace Cs
theorem CN : CR (RN 0) where
  addc := Nat.add_comm
  adda := Nat.add_assoc
  mulc := Nat.mul_comm
  mula := Nat.mul_assoc
  zadd := Nat.zero_add
  omul := Nat.one_mul
  zmul := Nat.zero_mul
  dist := Nat.mul_add
/-- How often an assignment is counted. -/
def mlt (N : Nt) (s : Nat) : Nat := (RN 0).mult N s
/-- The sum of f 0 .. f (m - 1). -/
abbrev sN (f : Nat → Nat) (m : Nat) : Nat := (RN 0).sumTo f m
theorem sN_zero (f : Nat → Nat) : sN f 0 = 0 := rfl
theorem sN_succ (f : Nat → Nat) (m : Nat) : sN f (m + 1) = sN f m + f m := rfl
theorem sN_add (f g : Nat → Nat) (m : Nat) : sN (fun i => f i + g i) m = sN f m + sN g m := sumTo_add CN f g m
theorem sN_swap (f : Nat → Nat → Nat) (n m : Nat) : sN (fun i => sN (fun j => f i j) n) m = sN (fun j => sN (fun i => f i j) m) n := sumTo_swap CN f n m
theorem sN_mul (c : Nat) (f : Nat → Nat) (m : Nat) : sN (fun i => c * f i) m = c * sN f m := sumTo_mul CN c f m
theorem sN_congr (f g : Nat → Nat) (m : Nat) (h : ∀ i, i < m → f i = g i) : sN f m = sN g m := sumTo_congr f g m h
theorem sN_le (f g : Nat → Nat) : ∀ m, (∀ i, i < m → f i ≤ g i) → sN f m ≤ sN g m
  | 0, _ => Nat.le_refl _
  | m + 1, h => by
    rw [sN_succ, sN_succ]
    exact Nat.add_le_add (sN_le f g m fun i hi => h i (by omega)) (h m (by omega))
theorem sN_mono (f : Nat → Nat) {m n : Nat} (h : m ≤ n) : sN f m ≤ sN f n := by
  induction n with
  | zero => rw [show m = 0 by omega]; exact Nat.le_refl _
  | succ n ih =>
    rcases Nat.lt_or_ge m (n + 1) with h1 | h1
    · rw [sN_succ]; have := ih (by omega); omega
    · rw [show m = n + 1 by omega]; exact Nat.le_refl _
theorem sN_one (c t : Nat) : ∀ m, sN (fun i => if i = t then c else 0) m = if t < m then c else 0
  | 0 => by simp [sN_zero]
  | m + 1 => by
    rw [sN_succ, sN_one c t m]
    by_cases h : t < m
    · rw [if_pos h, if_neg (by omega), if_pos (by omega)]; rfl
    · by_cases h1 : m = t
      · rw [if_neg h, if_pos h1, if_pos (by omega)]; exact Nat.zero_add _
      · rw [if_neg h, if_neg h1, if_neg (by omega)]
/-- How many of the first n variables are true. -/
def pcn (n s : Nat) : Nat := sN (fun i => if s.testBit i then 1 else 0) n
theorem pcn_le (n s : Nat) : pcn n s ≤ n := by
  induction n with
  | zero => exact Nat.le_refl _
  | succ n ih =>
    show pcn n s + (if s.testBit n then 1 else 0) ≤ _
    split <;> omega
section
variable {N : Nt} (hv : vld N = true) (hd : dcmp N = true) (n : Nat) (hn : N.n = (n : Int))
include hv hd hn
theorem wit_expand (W : Int → Nat) : ((RN 0).wit W).sum N = sN (fun s => (RN 0).term W n s * mlt N s) (2 ^ n) := expand CN hv hd W n hn
omit hv hd hn in
theorem term_all (W : Int → Nat) (s : Nat) : ∀ k, (∀ i, i < k → (if s.testBit i then W ((i : Int) + 1) else W (-((i : Int) + 1))) = 1) → (RN 0).term W k s = 1
  | 0, _ => rfl
  | k + 1, h => by
    show (RN 0).term W k s * (if s.testBit k then _ else _) = 1
    rw [term_all W s k fun i hi => h i (by omega), h k (by omega)]
omit hv hd hn in
theorem term_zero (W : Int → Nat) (s : Nat) (j : Nat) (hj : (if s.testBit j then W ((j : Int) + 1) else W (-((j : Int) + 1))) = 0) : ∀ k, j < k → (RN 0).term W k s = 0
  | 0, h => absurd h (by omega)
  | k + 1, h => by
    show (RN 0).term W k s * (if s.testBit k then _ else _) = 0
    by_cases h1 : j = k
    · subst h1; rw [hj]; rfl
    · rw [term_zero W s j hj k (by omega), Nat.zero_mul]
theorem cnt_sum : (RN 0).sum N = sN (mlt N) (2 ^ n) := by
  have h := wit_expand hv hd n hn (wt 0)
  rw [show (RN 0).wit (wt 0) = RN 0 from rfl] at h
  rw [h]
  refine sN_congr _ _ _ fun s hs => ?_
  rw [term_all (wt 0) s n fun i _ => ?_, Nat.one_mul]
  unfold wt
  split <;> rw [if_neg (by omega)]
theorem low_sum (i : Nat) (hi : i < n) : (RN ((i : Int) + 1)).sum N = sN (fun s => if s.testBit i then 0 else mlt N s) (2 ^ n) := by
  have h := wit_expand hv hd n hn (wt ((i : Int) + 1))
  rw [show (RN 0).wit (wt ((i : Int) + 1)) = RN ((i : Int) + 1) from rfl] at h
  rw [h]
  refine sN_congr _ _ _ fun s hs => ?_
  by_cases hb : s.testBit i = true
  · rw [term_zero _ s i (by rw [if_pos hb]; unfold wt; rw [if_pos rfl]) n hi, Nat.zero_mul, if_pos hb]
  · rw [if_neg hb, term_all _ s n fun j _ => ?_, Nat.one_mul]
    by_cases hj : s.testBit j = true
    · rw [if_pos hj]; unfold wt; rw [if_neg]
      intro e
      have : j = i := by omega
      exact hb (this ▸ hj)
    · rw [if_neg hj]; unfold wt; rw [if_neg (by omega)]
theorem high_sum (i : Nat) (hi : i < n) : (RN (-((i : Int) + 1))).sum N = sN (fun s => if s.testBit i then mlt N s else 0) (2 ^ n) := by
  have h := wit_expand hv hd n hn (wt (-((i : Int) + 1)))
  rw [show (RN 0).wit (wt (-((i : Int) + 1))) = RN (-((i : Int) + 1)) from rfl] at h
  rw [h]
  refine sN_congr _ _ _ fun s hs => ?_
  by_cases hb : s.testBit i = true
  · rw [if_pos hb, term_all _ s n fun j _ => ?_, Nat.one_mul]
    by_cases hj : s.testBit j = true
    · rw [if_pos hj]; unfold wt; rw [if_neg (by omega)]
    · rw [if_neg hj]; unfold wt; rw [if_neg]
      intro e
      have : j = i := by omega
      exact hj (this ▸ hb)
  · rw [term_zero _ s i (by rw [if_neg hb]; unfold wt; rw [if_pos rfl]) n hi, Nat.zero_mul, if_neg hb]
theorem low_high (i : Nat) (hi : i < n) : (RN ((i : Int) + 1)).sum N + (RN (-((i : Int) + 1))).sum N = (RN 0).sum N := by
  rw [low_sum hv hd n hn i hi, high_sum hv hd n hn i hi, cnt_sum hv hd n hn, ← sN_add]
  refine sN_congr _ _ _ fun s _ => ?_
  split <;> simp
theorem highs_sum : sN (fun i => (RN (-((i : Int) + 1))).sum N) n = sN (fun s => pcn n s * mlt N s) (2 ^ n) := by
  rw [sN_congr _ _ n fun i hi => high_sum hv hd n hn i hi, sN_swap]
  refine sN_congr _ _ _ fun s _ => ?_
  show _ = sN _ n * mlt N s
  rw [Nat.mul_comm, ← sN_mul]
  refine sN_congr _ _ _ fun i _ => ?_
  split <;> simp
/-- The weights x of positive literals, and 1 of negative ones. -/
def xW (x : Nat) : Int → Nat := fun l => if 0 < l then x else 1
omit hv hd hn in
theorem xW_term (x s : Nat) : ∀ k, (RN 0).term (xW x) k s = x ^ pcn k s
  | 0 => rfl
  | k + 1 => by
    show (RN 0).term (xW x) k s * (if s.testBit k then xW x ((k : Int) + 1) else xW x (-((k : Int) + 1))) = x ^ (pcn k s + if s.testBit k then 1 else 0)
    have e1 : xW x ((k : Int) + 1) = x := by unfold xW; rw [if_pos (by omega)]
    have e2 : xW x (-((k : Int) + 1)) = 1 := by unfold xW; rw [if_neg (by omega)]
    rw [xW_term x s k, Nat.pow_add, e1, e2]
    split <;> simp
/-- A polynomial's value. -/
def pev (x : Nat) (p : List Nat) : Nat := sm (fun t => p.getD t 0 * x ^ t) p.length
omit hv hd hn in
theorem pev_more (x : Nat) (p : List Nat) (m : Nat) (h : p.length ≤ m) : sm (fun t => p.getD t 0 * x ^ t) m = pev x p :=
  sm_more _ _ m h fun i hi _ => by rw [getD_ge p i hi, Nat.zero_mul]
omit hv hd hn in
theorem pev_addP (x : Nat) (a b : List Nat) : pev x (addP a b) = pev x a + pev x b := by
  rw [← pev_more x a (addP a b).length (by rw [addP_len]; omega), ← pev_more x b (addP a b).length (by rw [addP_len]; omega), ← sm_add]
  exact sm_congr _ _ _ fun i _ => by rw [addP_get, Nat.add_mul]
omit hv hd hn in
theorem smx_cvI (x : Nat) (a b : List Nat) (i : Nat) (f : Nat → Nat) (n : Nat) : ∀ k, i + k ≤ n → sm (fun t => cvI a b i f k t * x ^ t) n = sm (fun t => f t * x ^ t) n + a.getD i 0 * x ^ i * sm (fun j => b.getD j 0 * x ^ j) k
  | 0, _ => by show sm _ n = sm _ n + _ * 0; rfl
  | k + 1, h => by
    have e : (fun t => cvI a b i f (k + 1) t * x ^ t) = fun t => cvI a b i f k t * x ^ t + if t = i + k then a.getD i 0 * b.getD k 0 * x ^ (i + k) else 0 := by
      funext t
      show (cvI a b i f k t + if t = i + k then _ else 0) * x ^ t = _
      rw [Nat.add_mul]
      congr 1
      split
      · rename_i h; rw [h]
      · exact Nat.zero_mul _
    rw [e, sm_add, smx_cvI x a b i f n k (by omega), sm_one _ _ _ (by omega)]
    show _ = _ + a.getD i 0 * x ^ i * (sm _ k + b.getD k 0 * x ^ k)
    rw [Nat.mul_add, Nat.add_assoc]
    congr 2
    rw [Nat.pow_add, Nat.mul_assoc, Nat.mul_assoc, Nat.mul_left_comm (x ^ i)]
omit hv hd hn in
theorem smx_cvO (x : Nat) (a b : List Nat) (n : Nat) : ∀ i, i + b.length ≤ n + 1 → sm (fun t => cvO a b i t * x ^ t) n = sm (fun j => a.getD j 0 * x ^ j) i * pev x b
  | 0, _ => by
    show sm (fun t => 0 * x ^ t) n = 0 * _
    rw [Nat.zero_mul, sm_zero _ n fun i _ => Nat.zero_mul _]
  | i + 1, h => by
    show sm (fun t => cvI a b i (cvO a b i) b.length t * x ^ t) n = (sm _ i + a.getD i 0 * x ^ i) * _
    rw [smx_cvI x a b i _ n _ (by omega), smx_cvO x a b n i (by omega), Nat.add_mul]; rfl
omit hv hd hn in
theorem pev_mulP (x : Nat) (a b : List Nat) : pev x (mulP a b) = pev x a * pev x b := by
  by_cases h : a.length = 0 ∨ b.length = 0
  · unfold mulP
    rw [if_pos h]
    rcases h with h | h
    · rw [List.length_eq_zero_iff.1 h]; show 0 = 0 * _; rw [Nat.zero_mul]
    · rw [List.length_eq_zero_iff.1 h]; show 0 = _ * 0; rw [Nat.mul_zero]
  · have hl := mulP_len a b (by omega) (by omega)
    unfold pev
    rw [hl]
    rw [sm_congr _ (fun t => cvO a b a.length t * x ^ t) _ fun i _ => by rw [mulP_get]]
    exact smx_cvO x a b _ a.length (by omega)
omit hv hd hn in
theorem RC_RX (x : Nat) : Rv RC ((RN 0).wit (xW x)) N.n (fun p v => pev x p = v) where
  zero := rfl
  one := by show sm _ 1 = 1; show 0 + 1 * x ^ 0 = 1; simp
  add := fun a b c d h1 h2 => by show pev x (addP a c) = b + d; rw [pev_addP, h1, h2]
  mul := fun a b c d h1 h2 => by show pev x (mulP a c) = b * d; rw [pev_mulP, h1, h2]
  lit := fun l hl => by
    have := litOk_rng' hl
    show pev x (if l < 0 then [1] else [0, 1]) = xW x l
    unfold xW
    by_cases h : l < 0
    · rw [if_pos h, if_neg (by omega)]; show 0 + 1 * x ^ 0 = 1; simp
    · rw [if_neg h, if_pos (by omega)]; show 0 + 0 * x ^ 0 + 1 * x ^ 1 = x; simp
  both := fun v h1 h2 => by
    show pev x [1, 1] = xW x v + xW x (-v)
    unfold xW
    rw [if_pos (by omega), if_neg (by omega)]
    show 0 + 1 * x ^ 0 + 1 * x ^ 1 = x + 1
    simp; omega
omit hv hd hn in
theorem sm_lt (f : Nat → Nat) (x : Nat) : ∀ m, (∀ i, i < m → f i < x) → sm (fun t => f t * x ^ t) m < x ^ m
  | 0, _ => by show 0 < x ^ 0; simp
  | m + 1, h => by
    have h1 := sm_lt f x m fun i hi => h i (by omega)
    have h2 := h m (by omega)
    show sm _ m + f m * x ^ m < _
    have h3 : (f m + 1) * x ^ m ≤ x * x ^ m := Nat.mul_le_mul_right _ h2
    rw [Nat.pow_succ, Nat.mul_comm (x ^ m) x]
    rw [Nat.add_mul, Nat.one_mul] at h3
    omega
omit hv hd hn in
theorem sm_inj (f g : Nat → Nat) (x : Nat) : ∀ m, (∀ i, i < m → f i < x) → (∀ i, i < m → g i < x) → sm (fun t => f t * x ^ t) m = sm (fun t => g t * x ^ t) m → ∀ i, i < m → f i = g i
  | 0, _, _, _, i, hi => absurd hi (by omega)
  | m + 1, hf, hg, h, i, hi => by
    have h1 := sm_lt f x m fun i hi => hf i (by omega)
    have h2 := sm_lt g x m fun i hi => hg i (by omega)
    change sm _ m + f m * x ^ m = sm _ m + g m * x ^ m at h
    have e : f m = g m := by
      have a1 := congrArg (· / x ^ m) h
      simp only [Nat.add_mul_div_right _ _ (show 0 < x ^ m by omega), Nat.div_eq_of_lt h1, Nat.div_eq_of_lt h2, Nat.zero_add] at a1
      exact a1
    rw [e] at h
    rcases Nat.lt_or_ge i m with h3 | h3
    · exact sm_inj f g x m (fun i hi => hf i (by omega)) (fun i hi => hg i (by omega)) (by omega) i h3
    · rw [show i = m by omega, e]
omit hv hd hn in
theorem sm_sN (f : Nat → Nat) : ∀ m, sm f m = sN f m
  | 0 => rfl
  | m + 1 => by rw [sN_succ, ← sm_sN f m]; rfl
/-- How many assignments with k true variables are counted. -/
theorem card_sum (k : Nat) (hk : k < n + 1) : (RC.sum N).getD k 0 = sN (fun s => if pcn n s = k then mlt N s else 0) (2 ^ n) := by
  have hlen := RC_sum_len hv hd
  have key : ∀ x, sm (fun t => (RC.sum N).getD t 0 * x ^ t) (n + 1) = sm (fun t => sN (fun s => if pcn n s = t then mlt N s else 0) (2 ^ n) * x ^ t) (n + 1) := fun x => by
    rw [pev_more x _ (n + 1) (by omega), Rv.sum (RC_RX x) hv, wit_expand hv hd n hn (xW x), sm_sN]
    have e : ∀ t, t < n + 1 → sN (fun s => if pcn n s = t then mlt N s else 0) (2 ^ n) * x ^ t = sN (fun s => if pcn n s = t then mlt N s * x ^ t else 0) (2 ^ n) := fun t _ => by
      rw [Nat.mul_comm, ← sN_mul]
      refine sN_congr _ _ _ fun s _ => ?_
      split
      · exact Nat.mul_comm _ _
      · exact Nat.mul_zero _
    rw [sN_congr _ _ _ e, sN_swap]
    refine sN_congr _ _ _ fun s _ => ?_
    rw [xW_term]
    have h2 : ∀ t, t < n + 1 → (if pcn n s = t then mlt N s * x ^ t else 0) = if t = pcn n s then mlt N s * x ^ pcn n s else 0 := fun t _ => by
      by_cases h : pcn n s = t
      · rw [if_pos h, if_pos h.symm, h]
      · rw [if_neg h, if_neg (Ne.symm h)]
    rw [sN_congr _ _ _ h2, sN_one, if_pos (Nat.lt_succ_of_le (pcn_le n s)), Nat.mul_comm]
  have hb : ∀ (f : Nat → Nat) i, i < n + 1 → f i ≤ sm f (n + 1) := fun f i hi => sm_le f (n + 1) i hi
  refine sm_inj _ _ (sm (fun t => (RC.sum N).getD t 0) (n + 1) + sm (fun t => sN (fun s => if pcn n s = t then mlt N s else 0) (2 ^ n)) (n + 1) + 1) (n + 1) (fun i hi => ?_) (fun i hi => ?_) (key _) k hk
  · have := hb (fun t => (RC.sum N).getD t 0) i hi
    omega
  · have := hb (fun t => sN (fun s => if pcn n s = t then mlt N s else 0) (2 ^ n)) i hi
    omega
theorem cards_all : sN (fun k => (RC.sum N).getD k 0) (n + 1) = (RN 0).sum N := by
  rw [sN_congr _ _ _ fun k hk => card_sum hv hd n hn k hk, sN_swap, cnt_sum hv hd n hn]
  refine sN_congr _ _ _ fun s _ => ?_
  have h2 : ∀ t, t < n + 1 → (if pcn n s = t then mlt N s else 0) = if t = pcn n s then mlt N s else 0 := fun t _ => by
    by_cases h : pcn n s = t
    · rw [if_pos h, if_pos h.symm]
    · rw [if_neg h, if_neg (Ne.symm h)]
  rw [sN_congr _ _ _ h2, sN_one, if_pos (Nat.lt_succ_of_le (pcn_le n s))]
theorem cards_times : sN (fun k => k * (RC.sum N).getD k 0) (n + 1) = sN (fun i => (RN (-((i : Int) + 1))).sum N) n := by
  rw [highs_sum hv hd n hn]
  have e : ∀ k, k < n + 1 → k * (RC.sum N).getD k 0 = sN (fun s => if k = pcn n s then pcn n s * mlt N s else 0) (2 ^ n) := fun k hk => by
    rw [card_sum hv hd n hn k hk, ← sN_mul]
    refine sN_congr _ _ _ fun s _ => ?_
    by_cases h : pcn n s = k
    · rw [if_pos h, if_pos h.symm, h]
    · rw [if_neg h, if_neg (Ne.symm h)]; exact Nat.mul_zero _
  rw [sN_congr _ _ _ e, sN_swap]
  refine sN_congr _ _ _ fun s _ => ?_
  rw [sN_one, if_pos (Nat.lt_succ_of_le (pcn_le n s))]
end
end Cs
namespace Cs
/-- Whether a literal is true in s. -/
def hld (s : Nat) (l : Int) : Bool := decide (litVar l ≠ 0) && (s.testBit ((litVar l).toNat - 1) == decide (0 < l))
def evStart (s : Nat) (x : Nd) : Bool := decide (x.kind = 1) || decide (x.kind = 3) || (decide (x.kind = 2) && hld s x.lit)
def evIn (acc : List Bool) (x : Nd) (b : Bool) (k : Int) : Bool := if x.kind = 3 then b && acc.getD k.toNat false else b || acc.getD k.toNat false
def evStep (s : Nat) (acc : List Bool) (x : Nd) : Bool := x.ins.foldl (evIn acc x) (evStart s x)
/-- Which nodes are true in s. -/
def truth (s : Nat) (l : List Nd) : List Bool := scan (evStep s) [] l
/-- Whether s is a model. -/
def evB (N : Nt) (s : Nat) : Bool := (truth s N.l).getD (N.l.length - 1) false
theorem truth_len (s : Nat) (l : List Nd) : (truth s l).length = l.length := by unfold truth; rw [scan_length]; simp
/-- The cells of truth values. -/
def bools (L : List Bool) : List Value := L.map .bool
theorem bools_get (L : List Bool) (i : Nat) (h : i < L.length) : (bools L)[i]? = some (.bool (L.getD i false)) := by
  unfold bools
  rw [List.getElem?_map, List.getElem?_eq_getElem h, List.getD_eq_getElem?_getD, List.getElem?_eq_getElem h]; rfl
theorem bools_snoc (L : List Bool) (b : Bool) : bools (L ++ [b]) = bools L ++ [.bool b] := by unfold bools; simp
def boolF (L : List Bool) (i : Nat) : Value := .bool (L.getD i false)
theorem formed_kinds {x : Nd} {n b : Int} (h : formed x n b = true) : x.kind = 0 ∨ x.kind = 1 ∨ x.kind = 2 ∨ x.kind = 3 ∨ x.kind = 4 := by
  rcases formed_kind h with ⟨h1 | h1 | h1, _⟩ | h1 | h1
  · exact .inl h1
  · exact .inr (.inl h1)
  · exact .inr (.inr (.inl h1))
  · exact .inr (.inr (.inr (.inl h1)))
  · exact .inr (.inr (.inr (.inr h1)))
theorem oneBool {b : Bool} (u : Value) (h : u ∈ [Value.bool b]) : u.oneCell' = true := by
  simp at h; subst h; rfl
end Cs
namespace Cs
/-- How many inputs of a node of kind 4 are true. -/
def cnt4 (T : List Bool) (x : Nd) : Nat := if x.kind = 4 then x.ins.countP fun j => T.getD j.toNat false else 0
def detAt (N : Nt) (s : Nat) : Bool := N.l.all fun x => decide (cnt4 (truth s N.l) x ≤ 1)
theorem detAt_yes {N : Nt} {s : Nat} (h : ∀ i (hi : i < N.l.length), cnt4 (truth s N.l) N.l[i] ≤ 1) : detAt N s = true := by
  unfold detAt
  rw [List.all_eq_true]
  intro x hx
  obtain ⟨i, hi, rfl⟩ := List.getElem_of_mem hx
  exact decide_eq_true (h i hi)
theorem detAt_no {N : Nt} {s i : Nat} (hi : i < N.l.length) (h : 1 < cnt4 (truth s N.l) N.l[i]) : detAt N s = false := by
  cases ha : detAt N s
  · rfl
  · unfold detAt at ha
    rw [List.all_eq_true] at ha
    have := of_decide_eq_true (ha _ (List.getElem_mem hi))
    omega
end Cs
namespace Cs
theorem ind_lit {l n : Int} (s : Nat) (h : litOk l n = true) : (RN 0).ind s l = if hld s l then 1 else 0 := by
  have hr := litOk_rng' h
  have hlv : litVar l = if 0 < l then l else -l := by unfold litVar; repeat' split <;> omega
  unfold Rg.ind hld
  by_cases h0 : 0 < l
  · have e : litVar l = l := by rw [hlv, if_pos h0]
    rw [if_pos h0, e, decide_eq_true (show l ≠ 0 by omega), decide_eq_true h0, Bool.true_and, show (l - 1).toNat = l.toNat - 1 by omega]
    cases s.testBit (l.toNat - 1) <;> rfl
  · have e : litVar l = -l := by rw [hlv, if_neg h0]
    rw [if_neg h0, e, decide_eq_true (show -l ≠ 0 by omega), decide_eq_false h0, Bool.true_and, show (-l - 1).toNat = (-l).toNat - 1 by omega]
    cases s.testBit ((-l).toNat - 1) <;> rfl
theorem ind_both (s : Nat) (v : Int) (h : 1 ≤ v) : (RN 0).ind s v + (RN 0).ind s (-v) = 1 := by
  have e1 : (RN 0).ind s v = if s.testBit (v - 1).toNat then 1 else 0 := by unfold Rg.ind; rw [if_pos (by omega)]; rfl
  have e2 : (RN 0).ind s (-v) = if s.testBit (v - 1).toNat then 0 else 1 := by unfold Rg.ind; rw [if_neg (show ¬ 0 < -v by omega), Int.neg_neg]; rfl
  rw [e1, e2]
  cases s.testBit (v - 1).toNat <;> rfl
theorem ind_wide (s : Nat) : ∀ (vs : List Int) (x : Nat), (∀ v ∈ vs, 1 ≤ v) → ((RN 0).wit ((RN 0).ind s)).wide x vs = x
  | [], _, _ => rfl
  | v :: vs, x, h => by
    show ((RN 0).wit ((RN 0).ind s)).wide (x * ((RN 0).ind s v + (RN 0).ind s (-v))) vs = x
    rw [ind_both s v (h v (by simp)), Nat.mul_one]
    exact ind_wide s vs x fun u hu => h u (by simp [hu])
theorem ind_gap (s : Nat) (O acc : List Nat) (all k : Nat) : ((RN 0).wit ((RN 0).ind s)).gap O acc all k = acc.getD k 0 := ind_wide s _ _ (vl_pos _)
def b1 (b : Bool) : Nat := if b then 1 else 0
theorem fold_and (x : Nd) (h3 : x.kind = 3) (R : Rg Nat) (hR : R.mul = (· * ·)) (hz : R.zero = 0) (O acc : List Nat) (T : List Bool) : ∀ (ks : List Int) (p : Nat) (b : Bool), (∀ k ∈ ks, acc.getD k.toNat 0 = b1 (T.getD k.toNat false)) → p = b1 b →
    ks.foldl (R.in1 O acc x) p = b1 (ks.foldl (evIn T x) b)
  | [], p, b, _, h => h
  | k :: ks, p, b, hk, h => by
    have e1 : R.in1 O acc x p k = p * acc.getD k.toNat 0 := by unfold Rg.in1; rw [if_pos (.inr h3), hR, hz]
    have e2 : evIn T x b k = (b && T.getD k.toNat false) := by unfold evIn; rw [if_pos h3]
    show ks.foldl (R.in1 O acc x) (R.in1 O acc x p k) = b1 (ks.foldl (evIn T x) (evIn T x b k))
    refine fold_and x h3 R hR hz O acc T ks _ _ (fun k' hk' => hk k' (by simp [hk'])) ?_
    rw [e1, e2, h, hk k (by simp)]
    cases b <;> cases T.getD k.toNat false <;> rfl
theorem fold_or (x : Nd) (h4 : x.kind = 4) (s : Nat) (O acc : List Nat) (T : List Bool) : ∀ (ks : List Int) (p : Nat), (∀ k ∈ ks, acc.getD k.toNat 0 = b1 (T.getD k.toNat false)) →
    ks.foldl (((RN 0).wit ((RN 0).ind s)).in1 O acc x) p = p + ks.countP fun j => T.getD j.toNat false
  | [], p, _ => by simp
  | k :: ks, p, hk => by
    have e1 : ((RN 0).wit ((RN 0).ind s)).in1 O acc x p k = p + acc.getD k.toNat 0 := by
      unfold Rg.in1
      rw [if_neg (by omega), ind_gap]; rfl
    show ks.foldl _ (((RN 0).wit ((RN 0).ind s)).in1 O acc x p k) = _
    rw [fold_or x h4 s O acc T ks _ (fun k' hk' => hk k' (by simp [hk'])), e1, hk k (by simp), List.countP_cons]
    cases T.getD k.toNat false <;> simp [b1] <;> omega
theorem fold_ev (x : Nd) (h4 : x.kind ≠ 3) (T : List Bool) : ∀ (ks : List Int) (b : Bool), ks.foldl (evIn T x) b = (b || ks.any fun j => T.getD j.toNat false)
  | [], b => by simp
  | k :: ks, b => by
    show ks.foldl (evIn T x) (evIn T x b k) = _
    rw [fold_ev x h4 T ks, List.any_cons, ← Bool.or_assoc]
    congr 1
    unfold evIn; rw [if_neg h4]
theorem any_count (f : Int → Bool) : ∀ ks : List Int, ks.any f = decide (0 < ks.countP f)
  | [] => rfl
  | k :: ks => by
    rw [List.any_cons, any_count f ks, List.countP_cons]
    cases f k <;> simp
theorem scan_at {α : Type} (f : List α → Nd → α) (d : α) (l : List Nd) (k : Nat) (hk : k < l.length) : (scan f [] l).getD k d = f (scan f [] (l.take k)) l[k] := by
  rw [← scan_get f d l (k + 1) k (by omega) (by omega), scan_take _ _ k hk, List.getD_eq_getElem?_getD, List.getElem?_append_right (by rw [scan_len _ _ _ (by omega)]; exact Nat.le_refl _), scan_len _ _ _ (by omega), Nat.sub_self]; rfl
/-- In a deterministic net a node is counted once, or not. -/
theorem ind_truth {N : Nt} (hv : vld N = true) (s : Nat) (hdet : detAt N s = true) : ∀ (m k : Nat), k < m → k < N.l.length → (((RN 0).wit ((RN 0).ind s)).all (own N.l) N.l).getD k 0 = b1 ((truth s N.l).getD k false)
  | m + 1, k, hkm, hk => by
    have hfm := vld_formed hv k hk
    have ih : ∀ j ∈ N.l[k].ins, (scan (((RN 0).wit ((RN 0).ind s)).step (own N.l)) [] (N.l.take k)).getD j.toNat 0 = b1 ((scan (evStep s) [] (N.l.take k)).getD j.toNat false) := fun j hj => by
      obtain ⟨q, rfl, hq⟩ := formed_mem hfm j hj
      rw [Int.toNat_natCast, scan_get _ _ _ k q (by omega) hq, scan_get _ _ _ k q (by omega) hq]
      exact ind_truth hv s hdet m q (by omega) (by omega)
    unfold Rg.all truth
    rw [scan_at _ _ _ k hk, scan_at _ _ _ k hk]
    rw [show ∀ L x, Rg.step ((RN 0).wit ((RN 0).ind s)) (own N.l) L x = x.ins.foldl (((RN 0).wit ((RN 0).ind s)).in1 (own N.l) L x) (((RN 0).wit ((RN 0).ind s)).start x) from fun _ _ => rfl,
      show ∀ L x, evStep s L x = x.ins.foldl (evIn L x) (evStart s x) from fun _ _ => rfl]
    by_cases h2 : N.l[k].kind = 2
    · obtain ⟨hl, hin⟩ := formed_litOk hfm h2
      rw [hin]
      show Rg.start _ _ = b1 (evStart s _)
      unfold Rg.start evStart
      rw [if_pos h2, h2]
      show (RN 0).ind s N.l[k].lit = _
      rw [ind_lit s hl]; rfl
    · by_cases h3 : N.l[k].kind = 3
      · have e1 : Rg.start ((RN 0).wit ((RN 0).ind s)) N.l[k] = 1 := by unfold Rg.start; rw [if_neg h2, if_pos (.inr h3)]; rfl
        have e2 : evStart s N.l[k] = true := by unfold evStart; rw [h3]; rfl
        rw [e1, e2]
        exact fold_and _ h3 _ rfl rfl _ _ _ _ _ _ ih rfl
      · by_cases h4 : N.l[k].kind = 4
        · have e1 : Rg.start ((RN 0).wit ((RN 0).ind s)) N.l[k] = 0 := by unfold Rg.start; rw [if_neg h2, if_neg (by omega)]; rfl
          have e2 : evStart s N.l[k] = false := by unfold evStart; rw [h4]; rfl
          rw [e1, e2, fold_or _ h4 s _ _ _ _ _ ih, fold_ev _ h3, any_count, Bool.false_or, Nat.zero_add]
          have hc : N.l[k].ins.countP (fun j => (scan (evStep s) [] (N.l.take k)).getD j.toNat false) ≤ 1 := by
            unfold detAt at hdet
            rw [List.all_eq_true] at hdet
            have h := of_decide_eq_true (hdet _ (List.getElem_mem hk))
            unfold cnt4 at h
            rw [if_pos h4] at h
            refine Nat.le_trans (Nat.le_of_eq ?_) h
            refine List.countP_congr fun j hj => ?_
            obtain ⟨q, rfl, hq⟩ := formed_mem hfm j hj
            rw [Int.toNat_natCast, scan_get _ _ _ k q (by omega) hq]; rfl
          obtain ⟨C, hC⟩ : ∃ C, N.l[k].ins.countP (fun j => (scan (evStep s) [] (N.l.take k)).getD j.toNat false) = C := ⟨_, rfl⟩
          rw [hC] at hc ⊢
          match C, hc with
          | 0, _ => rfl
          | 1, _ => rfl
        · have h01 : N.l[k].kind = 0 ∨ N.l[k].kind = 1 := by
            rcases formed_kinds hfm with h | h | h | h | h <;> omega
          have hin : N.l[k].ins = [] := by
            rcases formed_kind hfm with ⟨_, h⟩ | h | h
            · exact List.length_eq_zero_iff.1 h
            · omega
            · omega
          rw [hin]
          show Rg.start _ _ = b1 (evStart s _)
          unfold Rg.start evStart
          rcases h01 with h | h
          · rw [h]; rfl
          · rw [h]; rfl
theorem mlt_ev {N : Nt} (hv : vld N = true) (s : Nat) (hdet : detAt N s = true) : mlt N s = b1 (evB N s) := by
  obtain ⟨_, _, hl0, _⟩ := vld_bounds hv
  show ((RN 0).wit ((RN 0).ind s)).gap _ _ _ _ = _
  rw [ind_gap]
  exact ind_truth hv s hdet N.l.length (N.l.length - 1) (by omega) (by omega)
end Cs
namespace Cs
theorem pcn_more (s m : Nat) (h : s < 2 ^ m) : ∀ d, pcn (m + d) s = pcn m s
  | 0 => rfl
  | d + 1 => by
    show pcn (m + d) s + (if s.testBit (m + d) then 1 else 0) = _
    rw [pcn_more s m h d, Nat.testBit_lt_two_pow (Nat.lt_of_lt_of_le h (Nat.pow_le_pow_right (by decide) (by omega)))]; simp
end Cs
end
