/- Plain facts: ranks of sets among the models, and the sets at places. -/
import Derived.Test.YtemgfhdgpkmmaaaDoorQ5
import Derived.Test.YtemgfhdgpkmmaaaDoorV2
set_option linter.unusedSimpArgs false
set_option linter.unusedVariables false
section
open Go Go.RowKit Cs
namespace Cs
/-- The weights of literals where the variables of f are as they are in a. -/
def fW (a f : Nat) (l : Int) : Nat := if has f (litVar l) && (has a (litVar l) != decide (0 < l)) then 0 else 1
abbrev RW (a f : Nat) : Rg Nat := (RN 0).wit (fW a f)
/-- The count, where the variables of f are as they are in a. -/
def cfN (N : Nt) (a f : Nat) : Nat := (RW a f).sum N
theorem fW_le (a f : Nat) (l : Int) : fW a f l ≤ 1 := by unfold fW; split <;> omega
theorem RW_R1 (a f : Nat) : Rl (RW a f) R1 (· ≤ ·) where
  zero := Nat.le_refl _
  one := Nat.le_refl _
  add := fun _ _ _ _ h k => Nat.add_le_add h k
  mul := fun _ _ _ _ h k => Nat.mul_le_mul h k
  lit := fun l => fW_le a f l
  both := fun v => Nat.add_le_add (fW_le a f v) (fW_le a f (-v))
theorem RW_part {N : Nt} (h : shortB N = true) (a f : Nat) (k : Nat) (hk : k < N.l.length) (m : Nat) :
    (N.l[k].ins.take m).foldl ((RW a f).in1 (own N.l) (scan ((RW a f).step (own N.l)) [] (N.l.take k)) N.l[k]) ((RW a f).start N.l[k]) < big :=
  Nat.lt_of_le_of_lt ((RW_R1 a f).fold ((RW_R1 a f).all (own N.l) (N.l.take k)) (own N.l) N.l[k] _ _ _ ((RW_R1 a f).start _)) (shortB_part h k hk m)
theorem RW_all {N : Nt} (h : shortB N = true) (a f : Nat) (k : Nat) : ((RW a f).all (own N.l) N.l).getD k 0 < big :=
  Nat.lt_of_le_of_lt (((RW_R1 a f).all (own N.l) N.l).2 k) (shortB_all h k)
theorem fW_at (a f s i : Nat) (hi : i < 128) : (if s.testBit i then fW a f ((i : Int) + 1) else fW a f (-((i : Int) + 1))) = if f.testBit i && (a.testBit i != s.testBit i) then 0 else 1 := by
  have h1 : litVar ((i : Int) + 1) = (i : Int) + 1 := by unfold litVar; repeat' split <;> omega
  have h2 : litVar (-((i : Int) + 1)) = (i : Int) + 1 := by unfold litVar; repeat' split <;> omega
  have h3 : ∀ t : Nat, has t ((i : Int) + 1) = t.testBit i := fun t => by
    rw [has_bit t _ (by omega) (by omega), show ((i : Int) + 1).toNat - 1 = i by omega]
  unfold fW
  rw [h1, h2, h3, h3, decide_eq_true (show (0 : Int) < (i : Int) + 1 by omega), decide_eq_false (show ¬ (0 : Int) < -((i : Int) + 1) by omega)]
  cases s.testBit i <;> rfl
/-- Whether s is as a is in the variables of f. -/
def agrB (a f s n : Nat) : Bool := (List.range n).all fun i => !f.testBit i || (s.testBit i == a.testBit i)
theorem fW_term (a f s : Nat) (n : Nat) (hn : n ≤ 128) : (RN 0).term (fW a f) n s = if agrB a f s n then 1 else 0 := by
  by_cases h : agrB a f s n = true
  · rw [if_pos h]
    refine term_all _ s n fun i hi => ?_
    rw [fW_at a f s i (by omega)]
    have h1 := List.all_eq_true.1 h i (List.mem_range.2 hi)
    cases hf : f.testBit i <;> cases ha : a.testBit i <;> cases hs : s.testBit i <;> simp [hf, ha, hs] at h1 ⊢
  · rw [if_neg h]
    have h0 : ∃ i, i < n ∧ ¬ ((!f.testBit i || (s.testBit i == a.testBit i)) = true) := by
      apply Classical.byContradiction
      intro hc
      refine h (List.all_eq_true.2 fun i hi => ?_)
      apply Classical.byContradiction
      intro h2
      exact hc ⟨i, List.mem_range.1 hi, h2⟩
    obtain ⟨i, hi, h1⟩ := h0
    refine term_zero _ s i ?_ n hi
    rw [fW_at a f s i (by omega)]
    cases hf : f.testBit i <;> cases ha : a.testBit i <;> cases hs : s.testBit i <;> simp [hf, ha, hs] at h1 ⊢
theorem cf_sum {N : Nt} (hv : vld N = true) (hd : dcmp N = true) (n : Nat) (hn : N.n = (n : Int)) (a f : Nat) : cfN N a f = sN (fun s => if agrB a f s n then mlt N s else 0) (2 ^ n) := by
  obtain ⟨h0, h1, _, _⟩ := vld_bounds hv
  unfold cfN
  rw [wit_expand hv hd n hn (fW a f)]
  refine sN_congr _ _ _ fun s _ => ?_
  rw [fW_term a f s n (by omega)]
  split <;> simp
/-! The order as numbers. -/
abbrev kb (s i : Nat) : Nat := if s.testBit i then 2 ^ (127 - i) else 0
/-- The part of the key that the first m variables make. -/
def kp (s m : Nat) : Nat := sN (kb s) m
theorem kp_key (s : Nat) : kp s 128 = key s := by unfold kp key kb; rfl
theorem kp_zero (s : Nat) : kp s 0 = 0 := rfl
theorem kp_succ (s m : Nat) : kp s (m + 1) = kp s m + kb s m := rfl
theorem kp_more (s m d : Nat) : kp s (m + d) = kp s m + sN (fun i => kb s (m + i)) d := sumTo_more CN _ m d
theorem kp_congr {s t m : Nat} (h : ∀ i, i < m → s.testBit i = t.testBit i) : kp s m = kp t m := sN_congr _ _ _ fun i hi => by unfold kb; rw [h i hi]
theorem kp_tail (s m d : Nat) (h : m + d ≤ 128) : sN (fun i => kb s (m + i)) d + 2 ^ (128 - (m + d)) ≤ 2 ^ (128 - m) := key_tail s.testBit m d h
theorem kp_le (s m d : Nat) (h : m + d ≤ 128) : kp s m ≤ kp s (m + d) ∧ kp s (m + d) + 2 ^ (128 - (m + d)) ≤ kp s m + 2 ^ (128 - m) := by
  have h1 := kp_more s m d
  have h2 := kp_tail s m d h
  omega
theorem kp_bounds (s m : Nat) (h : m ≤ 128) : kp s m ≤ key s ∧ key s + 1 ≤ kp s m + 2 ^ (128 - m) := by
  have h1 := kp_le s m (128 - m) (by omega)
  rw [show m + (128 - m) = 128 by omega, kp_key] at h1
  simpa using h1
theorem two_half (m : Nat) (h : m < 128) : 2 ^ (128 - m) = 2 ^ (127 - m) + 2 ^ (127 - m) := by
  rw [show 128 - m = (127 - m) + 1 by omega, Nat.pow_succ]; omega
theorem key_near (b s m : Nat) (hm : m ≤ 128) : (∀ j, j < m → s.testBit j = b.testBit j) ↔ kp b m ≤ key s ∧ key s < kp b m + 2 ^ (128 - m) := by
  constructor
  · intro h
    have h1 := kp_bounds s m hm
    rw [kp_congr h] at h1
    omega
  · intro h
    rcases first_diff s b m with h1 | ⟨j, hj, h2, h3⟩
    · exact h1
    · exfalso
      have e := kp_congr h3
      have hs := kp_bounds s (j + 1) (by omega)
      have hb := kp_le b (j + 1) (m - (j + 1)) (by omega)
      rw [show j + 1 + (m - (j + 1)) = m by omega] at hb
      rw [kp_succ, e] at hs
      rw [kp_succ] at hb
      rw [show 128 - (j + 1) = 127 - j by omega] at hs hb
      cases h4 : s.testBit j <;> cases h5 : b.testBit j
      · rw [h4, h5] at h2; exact h2 rfl
      · simp only [kb, h4, h5, if_true, if_false, Bool.false_eq_true] at hs hb; omega
      · simp only [kb, h4, h5, if_true, if_false, Bool.false_eq_true] at hs hb; omega
      · rw [h4, h5] at h2; exact h2 rfl
/-- How many models have a key below X. -/
def F (N : Nt) (n X : Nat) : Nat := sN (fun s => if key s < X then mlt N s else 0) (2 ^ n)
theorem F_zero (N : Nt) (n : Nat) : F N n 0 = 0 := sumTo_zero CN _ _ fun s _ => by simp [RN]
theorem F_mono (N : Nt) (n : Nat) {X Y : Nat} (h : X ≤ Y) : F N n X ≤ F N n Y := sN_le _ _ _ fun s _ => by
  by_cases h1 : key s < X
  · rw [if_pos h1, if_pos (by omega)]; exact Nat.le_refl _
  · rw [if_neg h1]; exact Nat.zero_le _
theorem key_lt_all (s : Nat) : key s < 2 ^ 128 := by
  have := kp_bounds s 0 (by omega)
  rw [kp_zero] at this
  simp only [Nat.sub_zero] at this
  omega
theorem F_all (N : Nt) (n X : Nat) (h : 2 ^ 128 ≤ X) : F N n X = sN (mlt N) (2 ^ n) := sN_congr _ _ _ fun s _ => if_pos (Nat.lt_of_lt_of_le (key_lt_all s) h)
section
variable {N : Nt} (hv : vld N = true) (hd : dcmp N = true) (n : Nat) (hn : N.n = (n : Int))
include hv hd hn
theorem F_step (b m : Nat) (hm : m ≤ n) : F N n (kp b m + 2 ^ (128 - m)) = F N n (kp b m) + cfN N b (allTo (m : Int)) := by
  obtain ⟨h0, h1, _, _⟩ := vld_bounds hv
  rw [cf_sum hv hd n hn]
  unfold F
  rw [← sN_add]
  refine sN_congr _ _ _ fun s _ => ?_
  have hk := key_near b s m (by omega)
  have ha : agrB b (allTo (m : Int)) s n = true ↔ ∀ j, j < m → s.testBit j = b.testBit j := by
    unfold agrB
    rw [List.all_eq_true]
    constructor
    · intro h j hj
      have := h j (List.mem_range.2 (by omega))
      rw [allTo_bit, decide_eq_true (show j < (min (m : Int) 128).toNat by omega)] at this
      simpa using this
    · intro h j hj
      rw [allTo_bit]
      by_cases hjm : j < m
      · rw [h j hjm]; simp
      · rw [decide_eq_false (show ¬ j < (min (m : Int) 128).toNat by omega)]; simp
  obtain ⟨P, hP⟩ : ∃ P, 2 ^ (128 - m) = P := ⟨_, rfl⟩
  rw [hP] at hk ⊢
  by_cases h2 : kp b m ≤ key s ∧ key s < kp b m + P
  · rw [if_pos h2.2, if_neg (by omega), if_pos (ha.2 (hk.2 h2)), Nat.zero_add]
  · rw [if_neg (show ¬ agrB b (allTo (m : Int)) s n = true from fun h => h2 (hk.1 (ha.1 h))), Nat.add_zero]
    by_cases h3 : key s < kp b m
    · rw [if_pos h3, if_pos (by omega)]
    · rw [if_neg h3, if_neg (by omega)]
theorem cf_none : cfN N 0 0 = F N n (2 ^ 128) := by
  rw [cf_sum hv hd n hn, F_all N n _ (Nat.le_refl _)]
  refine sN_congr _ _ _ fun s _ => if_pos ?_
  unfold agrB
  exact List.all_eq_true.2 fun i _ => by simp
end
/-- What the program's Rank adds up. -/
def rankN (N : Nt) (a : Nat) : Nat := (vl a).foldl (fun s v => s + cfN N (wout a v) (allTo v)) 0
theorem foldl_vl (g : Int → Nat) (s : Nat) : (vl s).foldl (fun t v => t + g v) 0 = sN (fun i => if s.testBit i then g ((i : Int) + 1) else 0) 128 := by
  rw [vl_eq]
  unfold vlist
  rw [List.foldl_map, List.foldl_map]
  have h : ∀ m, ((List.range m).filter fun i => s.testBit i).foldl (fun t (i : Nat) => t + g (((i + 1 : Nat) : Int))) 0 = sN (fun i => if s.testBit i then g ((i : Int) + 1) else 0) m := by
    intro m
    induction m with
    | zero => rfl
    | succ m ih =>
      rw [List.range_succ, List.filter_append, List.foldl_append, ih, sN_succ]
      by_cases hb : s.testBit m = true
      · simp [hb]
      · simp [hb]
  exact h 128
theorem sN_none (f : Nat → Nat) (n : Nat) : ∀ m, n ≤ m → (∀ i, n ≤ i → f i = 0) → sN f m = sN f n := by
  intro m
  induction m with
  | zero => intro h _; rw [show n = 0 by omega]
  | succ m ih =>
    intro h h0
    by_cases e : n = m + 1
    · rw [e]
    · rw [sN_succ, ih (by omega) h0, h0 m (by omega)]; rfl
theorem wout_bit (a v i : Nat) (hv : v < 128) : (wout a ((v : Int) + 1)).testBit i = (a.testBit i && !decide (i = v)) := by
  unfold wout
  rw [if_pos (by omega), minus_bit, show ((v : Int) + 1).toNat - 1 = v by omega, Nat.testBit_two_pow]
  congr 2
  exact decide_eq_decide.2 (by omega)
theorem in_bit {n : Nat} {a i : Nat} (ha : In (n : Int) a) (h : n ≤ i) : a.testBit i = false := by
  cases hb : a.testBit i
  · rfl
  · have := ha i hb; omega
theorem wth_lt {n a m : Nat} (ha : a < 2 ^ m) (hm : m < n) (hn : m < 128) : wth a ((m : Int) + 1) < 2 ^ (m + 1) := by
  unfold wth
  rw [if_pos (by omega), show ((m : Int) + 1).toNat - 1 = m by omega]
  refine Nat.or_lt_two_pow (Nat.lt_of_lt_of_le ha (Nat.pow_le_pow_right (by decide) (by omega))) (Nat.pow_lt_pow_right (by decide) (by omega))
theorem In.of_lt {n a : Nat} (h : a < 2 ^ n) : In (n : Int) a := fun i hi => by
  rcases Nat.lt_or_ge i n with h1 | h1
  · omega
  · rw [Nat.testBit_lt_two_pow (Nat.lt_of_lt_of_le h (Nat.pow_le_pow_right (by decide) h1))] at hi; cases hi
section
variable {N : Nt} (hv : vld N = true) (hd : dcmp N = true) (n : Nat) (hn : N.n = (n : Int))
include hv hd hn
theorem rank_to (a : Nat) : ∀ i, i ≤ n → sN (fun j => if a.testBit j then cfN N (wout a ((j : Int) + 1)) (allTo ((j : Int) + 1)) else 0) i = F N n (kp a i) := by
  obtain ⟨h0, h1, _, _⟩ := vld_bounds hv
  intro i
  induction i with
  | zero => intro _; rw [kp_zero, F_zero]; rfl
  | succ i ih =>
    intro hi
    rw [sN_succ, ih (by omega), kp_succ]
    by_cases hb : a.testBit i = true
    · rw [if_pos hb]
      have h2 := F_step hv hd n hn (wout a ((i : Int) + 1)) (i + 1) hi
      have h3 : kp (wout a ((i : Int) + 1)) (i + 1) = kp a i := by
        rw [kp_succ, show kb (wout a ((i : Int) + 1)) i = 0 by unfold kb; rw [wout_bit a i i (by omega)]; simp, Nat.add_zero]
        exact kp_congr fun j hj => by rw [wout_bit a i j (by omega), decide_eq_false (by omega)]; simp
      rw [h3, show 128 - (i + 1) = 127 - i by omega] at h2
      rw [show kb a i = 2 ^ (127 - i) from if_pos hb, h2]
      simp
    · rw [if_neg hb, show kb a i = 0 from if_neg hb, Nat.add_zero, Nat.add_zero]
theorem rank_F (a : Nat) (ha : In N.n a) : rankN N a = F N n (key a) := by
  obtain ⟨h0, h1, _, _⟩ := vld_bounds hv
  rw [hn] at ha
  unfold rankN
  rw [foldl_vl, sN_none _ n 128 (by omega) (fun i hi => by rw [in_bit ha hi]; rfl), rank_to hv hd n hn a n (Nat.le_refl _)]
  congr 1
  unfold kp
  exact (sN_none _ n 128 (by omega) (fun i hi => by unfold kb; rw [in_bit ha hi]; rfl)).symm
end
theorem kp_full {N : Nt} (hv : vld N = true) (n : Nat) (hn : N.n = (n : Int)) (a : Nat) (ha : In N.n a) : kp a n = key a := by
  obtain ⟨h0, h1, _, _⟩ := vld_bounds hv
  rw [hn] at ha
  unfold kp
  exact (sN_none _ n 128 (by omega) (fun i hi => by unfold kb; rw [in_bit ha hi]; rfl)).symm
/-- One round of the program's At. -/
def atStep (N : Nt) (p : Nat × Nat) (v : Int) : Nat × Nat := if cfN N p.1 (allTo v) ≤ p.2 then (wth p.1 v, p.2 - cfN N p.1 (allTo v)) else p
def atTo (N : Nt) (k : Nat) : Nat → Nat × Nat
  | 0 => (0, k)
  | m + 1 => atStep N (atTo N k m) ((m : Int) + 1)
def atN (N : Nt) (k : Nat) : Pt := if cfN N 0 0 ≤ k then ⟨0, false⟩ else ⟨(atTo N k N.n.toNat).1, true⟩
section
variable {N : Nt} (hv : vld N = true) (hd : dcmp N = true) (n : Nat) (hn : N.n = (n : Int))
include hv hd hn
theorem at_to (k : Nat) (hk : k < F N n (2 ^ 128)) : ∀ m, m ≤ n → (atTo N k m).1 < 2 ^ m ∧ F N n (kp (atTo N k m).1 m) + (atTo N k m).2 = k ∧ k < F N n (kp (atTo N k m).1 m + 2 ^ (128 - m)) := by
  obtain ⟨h0, h1, _, _⟩ := vld_bounds hv
  intro m
  induction m with
  | zero => intro _; exact ⟨by show 0 < 1; omega, by rw [kp_zero, F_zero]; show 0 + k = k; omega, by rw [kp_zero, Nat.zero_add]; exact hk⟩
  | succ m ih =>
    intro hm
    obtain ⟨i1, i2, i3⟩ := ih (by omega)
    show (atStep N (atTo N k m) ((m : Int) + 1)).1 < _ ∧ _
    change _ ∧ F N n (kp (atStep N (atTo N k m) ((m : Int) + 1)).1 (m + 1)) + (atStep N (atTo N k m) ((m : Int) + 1)).2 = k ∧ k < F N n (kp (atStep N (atTo N k m) ((m : Int) + 1)).1 (m + 1) + _)
    obtain ⟨p, hp⟩ : ∃ p, atTo N k m = p := ⟨_, rfl⟩
    rw [hp] at i1 i2 i3 ⊢
    obtain ⟨a, r⟩ := p
    simp only at i1 i2 i3
    have hb : a.testBit m = false := Nat.testBit_lt_two_pow i1
    have hka : kp a (m + 1) = kp a m := by rw [kp_succ, show kb a m = 0 by unfold kb; rw [hb]; rfl, Nat.add_zero]
    have hs := F_step hv hd n hn a (m + 1) hm
    rw [hka, show 128 - (m + 1) = 127 - m by omega] at hs
    rw [two_half m (by omega)] at i3
    rw [show 128 - (m + 1) = 127 - m by omega]
    have hcast : ((m + 1 : Nat) : Int) = (m : Int) + 1 := by omega
    rw [hcast] at hs
    obtain ⟨c, hc⟩ : ∃ c, cfN N a (allTo ((m : Int) + 1)) = c := ⟨_, rfl⟩
    rw [hc] at hs
    unfold atStep
    simp only [hc]
    by_cases hle : c ≤ r
    · rw [if_pos hle]
      have hkw : kp (wth a ((m : Int) + 1)) (m + 1) = kp a m + 2 ^ (127 - m) := by
        rw [kp_succ, show kb (wth a ((m : Int) + 1)) m = 2 ^ (127 - m) by unfold kb; rw [wth_testBit a m m (by omega)]; simp]
        congr 1
        exact kp_congr fun j hj => by rw [wth_testBit a m j (by omega), decide_eq_false (by omega)]; simp
      refine ⟨wth_lt i1 (n := n) (by omega) (by omega), ?_, ?_⟩
      · rw [hkw, hs]; simp only; omega
      · rw [hkw, Nat.add_assoc]; exact i3
    · rw [if_neg hle]
      refine ⟨Nat.lt_of_lt_of_le i1 (Nat.pow_le_pow_right (by decide) (by omega)), ?_, ?_⟩
      · rw [hka]; exact i2
      · rw [hka, hs]; omega
theorem F_mlt (a : Nat) (ha : a < 2 ^ n) : F N n (kp a n + 2 ^ (128 - n)) = F N n (kp a n) + mlt N a := by
  obtain ⟨h0, h1, _, _⟩ := vld_bounds hv
  rw [F_step hv hd n hn a n (Nat.le_refl _), cf_sum hv hd n hn]
  congr 1
  have h2 := sN_one (mlt N a) a (2 ^ n)
  rw [if_pos ha] at h2
  rw [← h2]
  refine sN_congr _ _ _ fun s hs => ?_
  have he : agrB a (allTo (n : Int)) s n = true ↔ s = a := by
    unfold agrB
    rw [List.all_eq_true]
    constructor
    · intro h
      apply Nat.eq_of_testBit_eq
      intro i
      rcases Nat.lt_or_ge i n with hi | hi
      · have := h i (List.mem_range.2 hi)
        rw [allTo_bit, decide_eq_true (show i < (min (n : Int) 128).toNat by omega)] at this
        simpa using this
      · rw [in_bit (In.of_lt ha) hi, in_bit (In.of_lt hs) hi]
    · rintro rfl i _; simp
  by_cases h : s = a
  · rw [if_pos (he.2 h), if_pos h, h]
  · rw [if_neg (fun h2 => h (he.1 h2)), if_neg h]
/-- The set at place k: of rank at most k, and the next one's rank is greater. -/
theorem at_spec (k : Nat) : if F N n (2 ^ 128) ≤ k then atN N k = ⟨0, false⟩ else ∃ a, a < 2 ^ n ∧ atN N k = ⟨a, true⟩ ∧ rankN N a ≤ k ∧ k < rankN N a + mlt N a := by
  have hc := cf_none hv hd n hn
  split
  · rename_i h
    unfold atN
    rw [hc, if_pos h]
  · rename_i h
    obtain ⟨h1, h2, h3⟩ := at_to hv hd n hn k (by omega) n (Nat.le_refl _)
    have hn2 : N.n.toNat = n := by omega
    have hi : In N.n (atTo N k n).1 := by rw [hn]; exact In.of_lt h1
    have hk := kp_full hv n hn _ hi
    rw [F_mlt hv hd n hn _ h1] at h3
    rw [hk] at h2 h3
    have hr := rank_F hv hd n hn _ hi
    refine ⟨(atTo N k n).1, h1, ?_, by omega, by omega⟩
    unfold atN
    rw [hc, if_neg h, hn2]
end
/-! The program's widening: a power of two. -/
theorem wide_fix (a f s : Nat) (x : Nat) : (RW a f).wide x (vl s) = x * 2 ^ crd (minus s f) := by
  have hb : ∀ v : Int, 1 ≤ v → v ≤ 128 → (RW a f).both v = if has f v then 1 else 2 := fun v h1 h2 => by
    show fW a f v + fW a f (-v) = _
    have e1 : litVar v = v := by unfold litVar; repeat' split <;> omega
    have e2 : litVar (-v) = v := by unfold litVar; repeat' split <;> omega
    unfold fW
    rw [e1, e2, decide_eq_true (show (0 : Int) < v by omega), decide_eq_false (show ¬ (0 : Int) < -v by omega)]
    cases has f v <;> cases has a v <;> rfl
  have hw : ∀ (vs : List Int) (x : Nat), (∀ v ∈ vs, 1 ≤ v ∧ v ≤ 128) → (RW a f).wide x vs = x * 2 ^ vs.countP fun v => !has f v := by
    intro vs
    induction vs with
    | nil => intro x _; simp [Rg.wide]
    | cons v vs ih =>
      intro x h
      show (RW a f).wide (x * (RW a f).both v) vs = _
      rw [ih _ fun u hu => h u (by simp [hu]), hb v (h v (by simp)).1 (h v (by simp)).2, List.countP_cons]
      cases has f v
      · simp [Nat.pow_succ, Nat.mul_assoc, Nat.mul_comm, Nat.mul_left_comm]
      · simp
  rw [hw _ _ (vl_bounds s)]
  congr 2
  rw [vl_eq]
  unfold vlist crd
  rw [List.countP_map, List.countP_map, List.countP_filter]
  refine List.countP_congr fun i hi => ?_
  have h1 := List.mem_range.1 hi
  simp only [Function.comp]
  rw [minus_bit, has_bit f _ (by omega) (by omega), show ((i + 1 : Nat) : Int).toNat - 1 = i by omega, Bool.and_comm]
end Cs
end
