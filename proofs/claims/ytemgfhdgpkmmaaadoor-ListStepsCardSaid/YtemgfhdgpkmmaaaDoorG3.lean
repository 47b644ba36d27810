/- Plain facts: the models of a net, one after the other. -/
import Derived.Test.YtemgfhdgpkmmaaaDoorG1
set_option linter.unusedSimpArgs false
set_option linter.unusedVariables false
open Go Go.RowKit Cs
namespace Cs
/-- The state of a walk: the last set, whether it has begun, whether it is over. -/
structure Wk where
  last : Nat
  begun : Bool
  over : Bool
/-- What the walk answers next. -/
def Wk.next (N : Nt) (s : Wk) : Pt := if s.over then ⟨0, false⟩ else if s.begun then afterN N s.last else leastN N 0 0
/-- The walk behind that. -/
def Wk.step (N : Nt) (s : Wk) : Wk := if s.over then s else ⟨(s.next N).set, true, !(s.next N).ok⟩
theorem Pt.none_of {p : Pt} (h1 : p.set = 0) (h2 : p.ok = false) : p = ⟨0, false⟩ := by
  obtain ⟨s, b⟩ := p
  simp only at h1 h2
  rw [h1, h2]
theorem least_spec {N : Nt} (hv : vld N = true) (hd : dcmp N = true) :
    ((leastN N 0 0).ok = true → evB N (leastN N 0 0).set = true ∧ In N.n (leastN N 0 0).set ∧ ∀ s, In N.n s → evB N s = true → key (leastN N 0 0).set ≤ key s) ∧
    ((leastN N 0 0).ok = false → (leastN N 0 0).set = 0 ∧ ∀ s, In N.n s → evB N s = false) := by
  obtain ⟨hn0, hn1, _, _⟩ := vld_bounds hv
  have h := least_lst hv hd 0 0
  refine ⟨fun ho => ⟨(h.mem ho).1, fun i hi => (allTo_lt (h.sub ho i hi)).2, fun s hs he => ?_⟩, fun ho => ⟨?_, fun s hs => ?_⟩⟩
  · have := (h.min s he fun i _ hf => by simp at hf).2
    rwa [hs.and hn1] at this
  · unfold leastN at ho ⊢
    simp only at ho ⊢
    split at ho
    · cases ho
    · rename_i h1; rw [if_neg h1]
  · cases he : evB N s
    · rfl
    · have := (h.min s he fun i _ hf => by simp at hf).1
      rw [ho] at this; cases this
/-- A walk that has gone by the assignments before the k-th. -/
def WkAt (N : Nt) (n k : Nat) (s : Wk) : Prop := s.over = false ∧ if s.begun then ∃ j, j < k ∧ s.last = asg j n ∧ ∀ i, j < i → i < k → evB N (asg i n) = false else ∀ i, i < k → evB N (asg i n) = false
theorem WkAt.start (N : Nt) (n : Nat) : WkAt N n 0 ⟨0, false, false⟩ := ⟨rfl, fun i hi => absurd hi (by omega)⟩
theorem WkAt.miss {N : Nt} {n k : Nat} {s : Wk} (h : WkAt N n k s) (he : evB N (asg k n) = false) : WkAt N n (k + 1) s := by
  obtain ⟨h1, h2⟩ := h
  refine ⟨h1, ?_⟩
  cases hb : s.begun
  · rw [hb, if_neg (by simp)] at h2
    rw [if_neg (by simp)]
    intro i hi
    rcases Nat.lt_or_ge i k with h | h
    · exact h2 i h
    · obtain rfl : i = k := by omega
      exact he
  · rw [hb, if_pos rfl] at h2
    rw [if_pos rfl]
    obtain ⟨j, hj, hl, hf⟩ := h2
    refine ⟨j, by omega, hl, fun i hi1 hi2 => ?_⟩
    rcases Nat.lt_or_ge i k with h | h
    · exact hf i hi1 h
    · obtain rfl : i = k := by omega
      exact he
section
variable {N : Nt} (hv : vld N = true) (hd : dcmp N = true) (n : Nat) (hn : N.n = (n : Int))
include hv hd hn
/-- What comes first, and what comes next, by place. -/
theorem first_hit (k : Nat) (hk : k < 2 ^ n) (he : evB N (asg k n) = true) (hf : ∀ i, i < k → evB N (asg i n) = false) : leastN N 0 0 = ⟨asg k n, true⟩ := by
  obtain ⟨h0, h1, _, _⟩ := vld_bounds hv
  have hn8 : n ≤ 128 := by omega
  have hin : ∀ j, In N.n (asg j n) := fun j => by rw [hn]; exact In.of_lt (asg_lt j n)
  obtain ⟨s1, s2⟩ := least_spec hv hd
  cases ho : (leastN N 0 0).ok
  · have := (s2 ho).2 (asg k n) (hin k)
    rw [he] at this; cases this
  · obtain ⟨e1, e2, e4⟩ := s1 ho
    rw [hn] at e2
    have e5 := asg_hor _ n hn8 e2.lt
    have e6 := hor_lt (leastN N 0 0).set n
    have e8 := e4 (asg k n) (hin k) he
    rw [← e5] at e8 e1
    have e9 := (key_asg_le hn8 e6 hk).1 e8
    have e10 : hor (leastN N 0 0).set n = k := by
      rcases Nat.lt_or_ge (hor (leastN N 0 0).set n) k with h | h
      · rw [hf _ h] at e1; cases e1
      · omega
    rw [e10] at e5
    rw [e5]
    show _ = Pt.mk _ true
    rw [← ho]
theorem first_none (hf : ∀ i, i < 2 ^ n → evB N (asg i n) = false) : leastN N 0 0 = ⟨0, false⟩ := by
  obtain ⟨h0, h1, _, _⟩ := vld_bounds hv
  have hn8 : n ≤ 128 := by omega
  obtain ⟨s1, s2⟩ := least_spec hv hd
  cases ho : (leastN N 0 0).ok
  · exact Pt.none_of (s2 ho).1 ho
  · obtain ⟨e1, e2, e4⟩ := s1 ho
    rw [hn] at e2
    have e5 := asg_hor _ n hn8 e2.lt
    rw [← e5, hf _ (hor_lt _ n)] at e1
    cases e1
omit hd in
theorem asg_key_lt {i j : Nat} (hi : i < 2 ^ n) (hj : j < 2 ^ n) : key (asg i n) < key (asg j n) ↔ i < j := by
  obtain ⟨h0, h1, _, _⟩ := vld_bounds hv
  have hn8 : n ≤ 128 := by omega
  have := key_asg_le hn8 hj hi
  omega
theorem next_hit (j k : Nat) (hjk : j < k) (hk : k < 2 ^ n) (he : evB N (asg k n) = true) (hf : ∀ i, j < i → i < k → evB N (asg i n) = false) : afterN N (asg j n) = ⟨asg k n, true⟩ := by
  obtain ⟨h0, h1, _, _⟩ := vld_bounds hv
  have hn8 : n ≤ 128 := by omega
  have hin : ∀ j, In N.n (asg j n) := fun j => by rw [hn]; exact In.of_lt (asg_lt j n)
  obtain ⟨s1, s2⟩ := after_spec hv hd (asg j n) (hin j)
  have hlt := (asg_key_lt hv n hn (i := j) (j := k) (by omega) hk).2 hjk
  cases ho : (afterN N (asg j n)).ok
  · exact absurd hlt ((s2 ho).2 (asg k n) (hin k) he)
  · obtain ⟨e1, e2, e3, e4⟩ := s1 ho
    rw [hn] at e2
    have e5 := asg_hor _ n hn8 e2.lt
    have e6 := hor_lt (afterN N (asg j n)).set n
    have e8 := e4 (asg k n) (hin k) he hlt
    rw [← e5] at e8 e1 e3
    have e9 := (key_asg_le hn8 e6 hk).1 e8
    have e7 := (asg_key_lt hv n hn (i := j) (j := hor (afterN N (asg j n)).set n) (by omega) e6).1 e3
    have e10 : hor (afterN N (asg j n)).set n = k := by
      rcases Nat.lt_or_ge (hor (afterN N (asg j n)).set n) k with h | h
      · rw [hf _ e7 h] at e1; cases e1
      · omega
    rw [e10] at e5
    rw [e5]
    show _ = Pt.mk _ true
    rw [← ho]
theorem next_none (j : Nat) (hj : j < 2 ^ n) (hf : ∀ i, j < i → i < 2 ^ n → evB N (asg i n) = false) : afterN N (asg j n) = ⟨0, false⟩ := by
  obtain ⟨h0, h1, _, _⟩ := vld_bounds hv
  have hn8 : n ≤ 128 := by omega
  have hin : ∀ j, In N.n (asg j n) := fun j => by rw [hn]; exact In.of_lt (asg_lt j n)
  obtain ⟨s1, s2⟩ := after_spec hv hd (asg j n) (hin j)
  cases ho : (afterN N (asg j n)).ok
  · exact Pt.none_of (s2 ho).1 ho
  · obtain ⟨e1, e2, e3, e4⟩ := s1 ho
    rw [hn] at e2
    have e5 := asg_hor _ n hn8 e2.lt
    have e6 := hor_lt (afterN N (asg j n)).set n
    rw [← e5] at e1 e3
    rw [hf _ ((asg_key_lt hv n hn hj e6).1 e3) e6] at e1
    cases e1
theorem WkAt.hit {k : Nat} {s : Wk} (h : WkAt N n k s) (hk : k < 2 ^ n) (he : evB N (asg k n) = true) : s.next N = ⟨asg k n, true⟩ ∧ s.step N = ⟨asg k n, true, false⟩ := by
  obtain ⟨h1, h2⟩ := h
  have e : s.next N = ⟨asg k n, true⟩ := by
    unfold Wk.next
    rw [h1, if_neg (by simp)]
    cases hb : s.begun
    · rw [hb, if_neg (by simp)] at h2
      rw [if_neg (by simp)]
      exact first_hit hv hd n hn k hk he h2
    · rw [hb, if_pos rfl] at h2
      rw [if_pos rfl]
      obtain ⟨j, hj, hl, hf⟩ := h2
      rw [hl]
      exact next_hit hv hd n hn j k hj hk he hf
  refine ⟨e, ?_⟩
  unfold Wk.step
  rw [h1, if_neg (by simp), e]
  rfl
theorem WkAt.stop {s : Wk} (h : WkAt N n (2 ^ n) s) : s.next N = ⟨0, false⟩ ∧ s.step N = ⟨0, true, true⟩ := by
  obtain ⟨h1, h2⟩ := h
  have e : s.next N = ⟨0, false⟩ := by
    unfold Wk.next
    rw [h1, if_neg (by simp)]
    cases hb : s.begun
    · rw [hb, if_neg (by simp)] at h2
      rw [if_neg (by simp)]
      exact first_none hv hd n hn h2
    · rw [hb, if_pos rfl] at h2
      rw [if_pos rfl]
      obtain ⟨j, hj, hl, hf⟩ := h2
      rw [hl]
      exact next_none hv hd n hn j hj hf
  refine ⟨e, ?_⟩
  unfold Wk.step
  rw [h1, if_neg (by simp), e]
  rfl
end
theorem WkAt.hitAt (N : Nt) (n k : Nat) : WkAt N n (k + 1) ⟨asg k n, true, false⟩ := ⟨rfl, k, by omega, rfl, fun i h1 h2 => absurd h2 (by omega)⟩
end Cs
