/- Plain facts: the assignments of n variables in order (asg), and what Seek answers by place. Plain facts: the models of a net, one after the other. -/
import Derived.Test.YtemgfhdgpkmmaaaDoorF1
/-! Plain facts: the assignments of n variables in order (asg), and what Seek answers by place. -/
section
set_option linter.unusedSimpArgs false
set_option linter.unusedVariables false
open Go Go.RowKit Cs
namespace Cs
/-- The program's assign after m of its steps. -/
def asgTo (k n : Nat) : Nat → Nat
  | 0 => 0
  | m + 1 => asgTo k n m ||| (if k.testBit (n - 1 - m) then 2 ^ m else 0)
/-- The assignment at a place. -/
def asg (k n : Nat) : Nat := asgTo k n n
theorem asgTo_bit (k n : Nat) : ∀ m i, (asgTo k n m).testBit i = (decide (i < m) && k.testBit (n - 1 - i))
  | 0, i => by simp [asgTo]
  | m + 1, i => by
    show (asgTo k n m ||| (if k.testBit (n - 1 - m) then 2 ^ m else 0)).testBit i = _
    rw [Nat.testBit_or, asgTo_bit k n m i]
    have e : (if k.testBit (n - 1 - m) then 2 ^ m else 0).testBit i = (decide (i = m) && k.testBit (n - 1 - i)) := by
      by_cases h : i = m
      · subst h
        split
        · rename_i h1; simp [Nat.testBit_two_pow, h1]
        · rename_i h1; simp [h1]
      · split
        · rw [Nat.testBit_two_pow]; simp [h]; exact fun h' => (h h'.symm).elim
        · simp [h]
    rw [e]
    rcases Nat.lt_trichotomy i m with h | h | h
    · rw [decide_eq_true h, decide_eq_true (show i < m + 1 by omega), decide_eq_false (show ¬ i = m by omega)]; simp
    · rw [decide_eq_false (show ¬ i < m by omega), decide_eq_true (show i < m + 1 by omega), decide_eq_true h]; simp
    · rw [decide_eq_false (show ¬ i < m by omega), decide_eq_false (show ¬ i < m + 1 by omega), decide_eq_false (show ¬ i = m by omega)]; simp
theorem asgTo_lt (k n m : Nat) : asgTo k n m < 2 ^ m := Nat.lt_pow_two_of_testBit _ fun i hi => by
  rw [asgTo_bit, decide_eq_false (by omega)]; rfl
theorem asg_lt (k n : Nat) : asg k n < 2 ^ n := asgTo_lt k n n
theorem asg_bit (k n i : Nat) (hi : i < n) : (asg k n).testBit i = k.testBit (n - 1 - i) := by
  unfold asg; rw [asgTo_bit, decide_eq_true hi]; rfl
theorem hor_asg_to (k n : Nat) (hk : k < 2 ^ n) : ∀ m, m ≤ n → hor (asg k n) m = k / 2 ^ (n - m)
  | 0, _ => by
    show 0 = _
    rw [Nat.sub_zero, Nat.div_eq_of_lt hk]
  | m + 1, h => by
    show 2 * hor (asg k n) m + (if (asg k n).testBit m then 1 else 0) = _
    rw [hor_asg_to k n hk m (by omega), asg_bit k n m (by omega), show n - m = (n - (m + 1)) + 1 by omega, show n - 1 - m = n - (m + 1) by omega, Nat.pow_succ, ← Nat.div_div_eq_div_mul]
    have e : (if k.testBit (n - (m + 1)) then 1 else 0) = k / 2 ^ (n - (m + 1)) % 2 := by
      rw [Nat.testBit_eq_decide_div_mod_eq]
      by_cases h1 : k / 2 ^ (n - (m + 1)) % 2 = 1
      · simp [h1]
      · rw [if_neg (by simpa using h1)]; omega
    rw [e]; omega
theorem hor_asg (k n : Nat) (hk : k < 2 ^ n) : hor (asg k n) n = k := by
  rw [hor_asg_to k n hk n (Nat.le_refl _), Nat.sub_self, Nat.pow_zero, Nat.div_one]
theorem key_hor (a n : Nat) (hn : n ≤ 128) (ha : a < 2 ^ n) : key a = hor a n * 2 ^ (128 - n) := by
  unfold key
  rw [sN_none _ n 128 hn (fun i hi => by rw [in_bit (In.of_lt ha) hi]; rfl)]
  have h := hor_sum a 128 n hn
  rw [← h]
  refine sN_congr _ _ _ fun j hj => ?_
  rw [show 127 - j = 128 - (j + 1) by omega]
theorem asg_hor (a n : Nat) (hn : n ≤ 128) (ha : a < 2 ^ n) : asg (hor a n) n = a := by
  have h128 : ∀ {x : Nat}, x < 2 ^ n → IsSet x := fun {x} hx => (In.of_lt hx).isSet (by omega)
  refine key_inj (h128 (asg_lt _ _)) (h128 ha) ?_
  rw [key_hor _ n hn (asg_lt _ _), key_hor _ n hn ha, hor_asg _ n (hor_lt a n)]
theorem key_asg (k n : Nat) (hn : n ≤ 128) (hk : k < 2 ^ n) : key (asg k n) = k * 2 ^ (128 - n) := by
  rw [key_hor _ n hn (asg_lt _ _), hor_asg k n hk]
theorem key_asg_le {j k n : Nat} (hn : n ≤ 128) (hj : j < 2 ^ n) (hk : k < 2 ^ n) : key (asg j n) ≤ key (asg k n) ↔ j ≤ k := by
  rw [key_asg j n hn hj, key_asg k n hn hk]
  exact Nat.mul_le_mul_right_iff (Nat.two_pow_pos _)
theorem In.lt {n s : Nat} (h : In (n : Int) s) : s < 2 ^ n := Nat.lt_pow_two_of_testBit _ fun i hi => by
  cases hb : s.testBit i
  · rfl
  · have := h i hb; omega
section
variable {N : Nt} (hv : vld N = true) (hd : dcmp N = true) (n : Nat) (hn : N.n = (n : Int)) (i : Nat) (hi : i < 2 ^ n)
include hv hd hn hi
theorem sought_hit (k : Nat) (hik : i ≤ k) (hk : k < 2 ^ n) (he : evB N (asg k n) = true) (hf : ∀ j, i ≤ j → j < k → evB N (asg j n) = false) : seekN N (asg i n) = ⟨asg k n, true⟩ := by
  obtain ⟨h0, h1, _, _⟩ := vld_bounds hv
  have hn8 : n ≤ 128 := by omega
  have hin : ∀ j, In N.n (asg j n) := fun j => by rw [hn]; exact In.of_lt (asg_lt j n)
  obtain ⟨s1, s2⟩ := seek_spec hv hd (asg i n) (hin i)
  cases ho : (seekN N (asg i n)).ok
  · have := (s2 ho).2 (asg k n) (hin k) he
    have h3 := (key_asg_le hn8 hi hk).2 hik
    omega
  · obtain ⟨e1, e2, e3, e4⟩ := s1 ho
    rw [hn] at e2
    have e5 := asg_hor _ n hn8 e2.lt
    have e6 := hor_lt (seekN N (asg i n)).set n
    rw [← e5] at e3 e1
    have e7 := (key_asg_le hn8 hi e6).1 e3
    have e8 := e4 (asg k n) (hin k) he ((key_asg_le hn8 hi hk).2 hik)
    rw [← e5] at e8
    have e9 := (key_asg_le hn8 e6 hk).1 e8
    have e10 : hor (seekN N (asg i n)).set n = k := by
      rcases Nat.lt_or_ge (hor (seekN N (asg i n)).set n) k with h | h
      · rw [hf _ e7 h] at e1; cases e1
      · omega
    rw [e10] at e5
    rw [e5]
    show _ = Pt.mk _ true
    rw [← ho]
theorem sought_none (hf : ∀ j, i ≤ j → j < 2 ^ n → evB N (asg j n) = false) : seekN N (asg i n) = ⟨0, false⟩ := by
  obtain ⟨h0, h1, _, _⟩ := vld_bounds hv
  have hn8 : n ≤ 128 := by omega
  have hin : ∀ j, In N.n (asg j n) := fun j => by rw [hn]; exact In.of_lt (asg_lt j n)
  obtain ⟨s1, s2⟩ := seek_spec hv hd (asg i n) (hin i)
  cases ho : (seekN N (asg i n)).ok
  · have := (s2 ho).1
    show _ = Pt.mk 0 false
    rw [← this, ← ho]
  · obtain ⟨e1, e2, e3, e4⟩ := s1 ho
    rw [hn] at e2
    have e5 := asg_hor _ n hn8 e2.lt
    have e6 := hor_lt (seekN N (asg i n)).set n
    rw [← e5] at e3 e1
    rw [hf _ ((key_asg_le hn8 hi e6).1 e3) e6] at e1; cases e1
end
end Cs
end
/-! Plain facts: the models of a net, one after the other. -/
section
set_option linter.unusedSimpArgs false
set_option linter.unusedVariables false
open Go Go.RowKit Cs
namespace Cs
/-- The state of a walk: the last set, whether it has begun, whether it is over. -/
structure Wk where
  last : Nat
  begun : Bool
  over : Bool
/-- What the walk answers next. -/
def Wk.next (N : Nt) (s : Wk) : Pt := if s.over then ⟨0, false⟩ else if s.begun then afterN N s.last else leastN N 0 0
/-- The walk behind that. -/
def Wk.step (N : Nt) (s : Wk) : Wk := if s.over then s else ⟨(s.next N).set, true, !(s.next N).ok⟩
theorem Pt.none_of {p : Pt} (h1 : p.set = 0) (h2 : p.ok = false) : p = ⟨0, false⟩ := by
  obtain ⟨s, b⟩ := p
  simp only at h1 h2
  rw [h1, h2]
theorem least_spec {N : Nt} (hv : vld N = true) (hd : dcmp N = true) :
    ((leastN N 0 0).ok = true → evB N (leastN N 0 0).set = true ∧ In N.n (leastN N 0 0).set ∧ ∀ s, In N.n s → evB N s = true → key (leastN N 0 0).set ≤ key s) ∧
    ((leastN N 0 0).ok = false → (leastN N 0 0).set = 0 ∧ ∀ s, In N.n s → evB N s = false) := by
  obtain ⟨hn0, hn1, _, _⟩ := vld_bounds hv
  have h := least_lst hv hd 0 0
  refine ⟨fun ho => ⟨(h.mem ho).1, fun i hi => (allTo_lt (h.sub ho i hi)).2, fun s hs he => ?_⟩, fun ho => ⟨?_, fun s hs => ?_⟩⟩
  · have := (h.min s he fun i _ hf => by simp at hf).2
    rwa [hs.and hn1] at this
  · unfold leastN at ho ⊢
    simp only at ho ⊢
    split at ho
    · cases ho
    · rename_i h1; rw [if_neg h1]
  · cases he : evB N s
    · rfl
    · have := (h.min s he fun i _ hf => by simp at hf).1
      rw [ho] at this; cases this
/-- A walk that has gone by the assignments before the k-th. -/
def WkAt (N : Nt) (n k : Nat) (s : Wk) : Prop := s.over = false ∧ if s.begun then ∃ j, j < k ∧ s.last = asg j n ∧ ∀ i, j < i → i < k → evB N (asg i n) = false else ∀ i, i < k → evB N (asg i n) = false
theorem WkAt.start (N : Nt) (n : Nat) : WkAt N n 0 ⟨0, false, false⟩ := ⟨rfl, fun i hi => absurd hi (by omega)⟩
theorem WkAt.miss {N : Nt} {n k : Nat} {s : Wk} (h : WkAt N n k s) (he : evB N (asg k n) = false) : WkAt N n (k + 1) s := by
  obtain ⟨h1, h2⟩ := h
  refine ⟨h1, ?_⟩
  cases hb : s.begun
  · rw [hb, if_neg (by simp)] at h2
    rw [if_neg (by simp)]
    intro i hi
    rcases Nat.lt_or_ge i k with h | h
    · exact h2 i h
    · obtain rfl : i = k := by omega
      exact he
  · rw [hb, if_pos rfl] at h2
    rw [if_pos rfl]
    obtain ⟨j, hj, hl, hf⟩ := h2
    refine ⟨j, by omega, hl, fun i hi1 hi2 => ?_⟩
    rcases Nat.lt_or_ge i k with h | h
    · exact hf i hi1 h
    · obtain rfl : i = k := by omega
      exact he
section
variable {N : Nt} (hv : vld N = true) (hd : dcmp N = true) (n : Nat) (hn : N.n = (n : Int))
include hv hd hn
/-- What comes first, and what comes next, by place. -/
theorem first_hit (k : Nat) (hk : k < 2 ^ n) (he : evB N (asg k n) = true) (hf : ∀ i, i < k → evB N (asg i n) = false) : leastN N 0 0 = ⟨asg k n, true⟩ := by
  obtain ⟨h0, h1, _, _⟩ := vld_bounds hv
  have hn8 : n ≤ 128 := by omega
  have hin : ∀ j, In N.n (asg j n) := fun j => by rw [hn]; exact In.of_lt (asg_lt j n)
  obtain ⟨s1, s2⟩ := least_spec hv hd
  cases ho : (leastN N 0 0).ok
  · have := (s2 ho).2 (asg k n) (hin k)
    rw [he] at this; cases this
  · obtain ⟨e1, e2, e4⟩ := s1 ho
    rw [hn] at e2
    have e5 := asg_hor _ n hn8 e2.lt
    have e6 := hor_lt (leastN N 0 0).set n
    have e8 := e4 (asg k n) (hin k) he
    rw [← e5] at e8 e1
    have e9 := (key_asg_le hn8 e6 hk).1 e8
    have e10 : hor (leastN N 0 0).set n = k := by
      rcases Nat.lt_or_ge (hor (leastN N 0 0).set n) k with h | h
      · rw [hf _ h] at e1; cases e1
      · omega
    rw [e10] at e5
    rw [e5]
    show _ = Pt.mk _ true
    rw [← ho]
theorem first_none (hf : ∀ i, i < 2 ^ n → evB N (asg i n) = false) : leastN N 0 0 = ⟨0, false⟩ := by
  obtain ⟨h0, h1, _, _⟩ := vld_bounds hv
  have hn8 : n ≤ 128 := by omega
  obtain ⟨s1, s2⟩ := least_spec hv hd
  cases ho : (leastN N 0 0).ok
  · exact Pt.none_of (s2 ho).1 ho
  · obtain ⟨e1, e2, e4⟩ := s1 ho
    rw [hn] at e2
    have e5 := asg_hor _ n hn8 e2.lt
    rw [← e5, hf _ (hor_lt _ n)] at e1
    cases e1
omit hd in
theorem asg_key_lt {i j : Nat} (hi : i < 2 ^ n) (hj : j < 2 ^ n) : key (asg i n) < key (asg j n) ↔ i < j := by
  obtain ⟨h0, h1, _, _⟩ := vld_bounds hv
  have hn8 : n ≤ 128 := by omega
  have := key_asg_le hn8 hj hi
  omega
theorem next_hit (j k : Nat) (hjk : j < k) (hk : k < 2 ^ n) (he : evB N (asg k n) = true) (hf : ∀ i, j < i → i < k → evB N (asg i n) = false) : afterN N (asg j n) = ⟨asg k n, true⟩ := by
  obtain ⟨h0, h1, _, _⟩ := vld_bounds hv
  have hn8 : n ≤ 128 := by omega
  have hin : ∀ j, In N.n (asg j n) := fun j => by rw [hn]; exact In.of_lt (asg_lt j n)
  obtain ⟨s1, s2⟩ := after_spec hv hd (asg j n) (hin j)
  have hlt := (asg_key_lt hv n hn (i := j) (j := k) (by omega) hk).2 hjk
  cases ho : (afterN N (asg j n)).ok
  · exact absurd hlt ((s2 ho).2 (asg k n) (hin k) he)
  · obtain ⟨e1, e2, e3, e4⟩ := s1 ho
    rw [hn] at e2
    have e5 := asg_hor _ n hn8 e2.lt
    have e6 := hor_lt (afterN N (asg j n)).set n
    have e8 := e4 (asg k n) (hin k) he hlt
    rw [← e5] at e8 e1 e3
    have e9 := (key_asg_le hn8 e6 hk).1 e8
    have e7 := (asg_key_lt hv n hn (i := j) (j := hor (afterN N (asg j n)).set n) (by omega) e6).1 e3
    have e10 : hor (afterN N (asg j n)).set n = k := by
      rcases Nat.lt_or_ge (hor (afterN N (asg j n)).set n) k with h | h
      · rw [hf _ e7 h] at e1; cases e1
      · omega
    rw [e10] at e5
    rw [e5]
    show _ = Pt.mk _ true
    rw [← ho]
theorem next_none (j : Nat) (hj : j < 2 ^ n) (hf : ∀ i, j < i → i < 2 ^ n → evB N (asg i n) = false) : afterN N (asg j n) = ⟨0, false⟩ := by
  obtain ⟨h0, h1, _, _⟩ := vld_bounds hv
  have hn8 : n ≤ 128 := by omega
  have hin : ∀ j, In N.n (asg j n) := fun j => by rw [hn]; exact In.of_lt (asg_lt j n)
  obtain ⟨s1, s2⟩ := after_spec hv hd (asg j n) (hin j)
  cases ho : (afterN N (asg j n)).ok
  · exact Pt.none_of (s2 ho).1 ho
  · obtain ⟨e1, e2, e3, e4⟩ := s1 ho
    rw [hn] at e2
    have e5 := asg_hor _ n hn8 e2.lt
    have e6 := hor_lt (afterN N (asg j n)).set n
    rw [← e5] at e1 e3
    rw [hf _ ((asg_key_lt hv n hn hj e6).1 e3) e6] at e1
    cases e1
theorem WkAt.hit {k : Nat} {s : Wk} (h : WkAt N n k s) (hk : k < 2 ^ n) (he : evB N (asg k n) = true) : s.next N = ⟨asg k n, true⟩ ∧ s.step N = ⟨asg k n, true, false⟩ := by
  obtain ⟨h1, h2⟩ := h
  have e : s.next N = ⟨asg k n, true⟩ := by
    unfold Wk.next
    rw [h1, if_neg (by simp)]
    cases hb : s.begun
    · rw [hb, if_neg (by simp)] at h2
      rw [if_neg (by simp)]
      exact first_hit hv hd n hn k hk he h2
    · rw [hb, if_pos rfl] at h2
      rw [if_pos rfl]
      obtain ⟨j, hj, hl, hf⟩ := h2
      rw [hl]
      exact next_hit hv hd n hn j k hj hk he hf
  refine ⟨e, ?_⟩
  unfold Wk.step
  rw [h1, if_neg (by simp), e]
  rfl
theorem WkAt.stop {s : Wk} (h : WkAt N n (2 ^ n) s) : s.next N = ⟨0, false⟩ ∧ s.step N = ⟨0, true, true⟩ := by
  obtain ⟨h1, h2⟩ := h
  have e : s.next N = ⟨0, false⟩ := by
    unfold Wk.next
    rw [h1, if_neg (by simp)]
    cases hb : s.begun
    · rw [hb, if_neg (by simp)] at h2
      rw [if_neg (by simp)]
      exact first_none hv hd n hn h2
    · rw [hb, if_pos rfl] at h2
      rw [if_pos rfl]
      obtain ⟨j, hj, hl, hf⟩ := h2
      rw [hl]
      exact next_none hv hd n hn j hj hf
  refine ⟨e, ?_⟩
  unfold Wk.step
  rw [h1, if_neg (by simp), e]
  rfl
end
theorem WkAt.hitAt (N : Nt) (n k : Nat) : WkAt N n (k + 1) ⟨asg k n, true, false⟩ := ⟨rfl, k, by omega, rfl, fun i h1 h2 => absurd h2 (by omega)⟩
end Cs
end
