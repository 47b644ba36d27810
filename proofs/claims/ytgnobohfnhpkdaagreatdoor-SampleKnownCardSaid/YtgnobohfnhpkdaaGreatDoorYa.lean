/- Plain facts on numbers that bits draw. Plain facts on numbers that bits draw: only the bits that are read matter, and all of them. -/
import Derived.Test.YtgnobohfnhpkdaaGreatDoorM1
/-! Plain facts on numbers that bits draw. -/
section
set_option linter.unusedSimpArgs false
set_option linter.unusedVariables false
namespace Cs
/-- The i-th bit of bytes, the highest one of each byte first. -/
def bitAt (bs : List Nat) (i : Nat) : Nat := bs.getD (i / 8) 0 / 2 ^ (7 - i % 8) % 2
/-- The number whose bits stand from a place on. -/
def bitsV (bs : List Nat) (at' : Nat) : Nat → Nat
  | 0 => 0
  | m + 1 => bitsV bs at' m + bitsV bs at' m + bitAt bs (at' + m)
theorem bitAt_lt (bs : List Nat) (i : Nat) : bitAt bs i < 2 := Nat.mod_lt _ (by decide)
theorem bitsV_lt (bs : List Nat) (at' : Nat) : ∀ m, bitsV bs at' m < 2 ^ m
  | 0 => Nat.one_pos
  | m + 1 => by
    have h1 := bitsV_lt bs at' m
    have h2 := bitAt_lt bs (at' + m)
    show bitsV bs at' m + bitsV bs at' m + bitAt bs (at' + m) < 2 ^ (m + 1)
    rw [Nat.pow_succ]
    omega
/-- What is drawn below c, k bits at once, from a place on: the number, and how many bits were read. -/
def drawF (bs : List Nat) (c k : Nat) : Nat → Nat → Option (Nat × Nat)
  | 0, _ => none
  | f + 1, at' => if at' + k ≤ 8 * bs.length then (if bitsV bs at' k < c then some (bitsV bs at' k, at' + k) else drawF bs c k f (at' + k)) else none
/-- What is drawn below c. -/
def drawN (c : Nat) (bs : List Nat) : Option (Nat × Nat) := drawF bs c (nd 2 (c - 1)) (8 * bs.length + 1) 0
/-- Enough turns: one more changes nothing. -/
theorem drawF_more (bs : List Nat) (c k : Nat) (hk : k = 0 → 0 < c) : ∀ (f at' : Nat), 8 * bs.length < at' + f → drawF bs c k (f + 1) at' = drawF bs c k f at'
  | 0, at', h => by
    show (if at' + k ≤ 8 * bs.length then _ else none) = none
    rw [if_neg (by omega)]
  | f + 1, at', h => by
    show (if at' + k ≤ 8 * bs.length then (if bitsV bs at' k < c then some (bitsV bs at' k, at' + k) else drawF bs c k (f + 1) (at' + k)) else none) = (if at' + k ≤ 8 * bs.length then (if bitsV bs at' k < c then some (bitsV bs at' k, at' + k) else drawF bs c k f (at' + k)) else none)
    by_cases h1 : at' + k ≤ 8 * bs.length
    · rw [if_pos h1, if_pos h1]
      by_cases h2 : bitsV bs at' k < c
      · rw [if_pos h2, if_pos h2]
      · rw [if_neg h2, if_neg h2]
        have hk0 : 0 < k := by
          rcases Nat.eq_zero_or_pos k with h3 | h3
          · subst h3
            exact absurd (hk rfl) (by simpa [bitsV] using h2)
          · exact h3
        exact drawF_more bs c k hk f (at' + k) (by omega)
    · rw [if_neg h1, if_neg h1]
theorem drawN_turn (bs : List Nat) (c k : Nat) (hk : k = 0 → 0 < c) (f at' : Nat) (h : 8 * bs.length < at' + f) :
    drawF bs c k f at' = if at' + k ≤ 8 * bs.length then (if bitsV bs at' k < c then some (bitsV bs at' k, at' + k) else drawF bs c k f (at' + k)) else none := by
  rw [← drawF_more bs c k hk f at' h]; rfl
end Cs
end
/-! Plain facts on numbers that bits draw: only the bits that are read matter, and all of them. -/
section
set_option linter.unusedSimpArgs false
set_option linter.unusedVariables false
namespace Cs
theorem bitsV_congr {bs bs' : List Nat} {at' : Nat} : ∀ m, (∀ i, at' ≤ i → i < at' + m → bitAt bs i = bitAt bs' i) → bitsV bs at' m = bitsV bs' at' m
  | 0, _ => rfl
  | m + 1, h => by
    show bitsV bs at' m + bitsV bs at' m + bitAt bs (at' + m) = bitsV bs' at' m + bitsV bs' at' m + bitAt bs' (at' + m)
    rw [bitsV_congr m (fun i h1 h2 => h i h1 (by omega)), h (at' + m) (by omega) (by omega)]
theorem drawF_step (bs : List Nat) (c k f at' : Nat) : drawF bs c k (f + 1) at' = if at' + k ≤ 8 * bs.length then (if bitsV bs at' k < c then some (bitsV bs at' k, at' + k) else drawF bs c k f (at' + k)) else none := rfl
theorem drawF_mono (bs : List Nat) (c k : Nat) : ∀ (f m at' : Nat) (r : Nat × Nat), drawF bs c k f at' = some r → drawF bs c k (f + m) at' = some r
  | 0, m, at', r, h => by cases h
  | f + 1, m, at', r, h => by
    rw [show f + 1 + m = (f + m) + 1 by omega, drawF_step]
    rw [drawF_step] at h
    by_cases h1 : at' + k ≤ 8 * bs.length
    · rw [if_pos h1] at h ⊢
      by_cases h2 : bitsV bs at' k < c
      · rw [if_pos h2] at h ⊢; exact h
      · rw [if_neg h2] at h ⊢; exact drawF_mono bs c k f m _ r h
    · rw [if_neg h1] at h; cases h
theorem drawF_enough (bs : List Nat) (c k : Nat) (hk : k = 0 → 0 < c) (f at' : Nat) (h : 8 * bs.length < at' + f) : ∀ m, drawF bs c k (f + m) at' = drawF bs c k f at'
  | 0 => rfl
  | m + 1 => by rw [← Nat.add_assoc, drawF_more bs c k hk (f + m) at' (by omega)]; exact drawF_enough bs c k hk f at' h m
theorem drawF_at (bs : List Nat) (c k : Nat) : ∀ (f at' x u : Nat), drawF bs c k f at' = some (x, u) → at' + k ≤ u ∧ u ≤ 8 * bs.length ∧ x < c ∧ ∃ q, u = at' + q * k
  | 0, at', x, u, h => by cases h
  | f + 1, at', x, u, h => by
    rw [drawF_step] at h
    by_cases h1 : at' + k ≤ 8 * bs.length
    · rw [if_pos h1] at h
      by_cases h2 : bitsV bs at' k < c
      · rw [if_pos h2] at h
        cases h
        exact ⟨Nat.le_refl _, h1, h2, 1, by omega⟩
      · rw [if_neg h2] at h
        obtain ⟨a1, a2, a3, q, a4⟩ := drawF_at bs c k f _ x u h
        exact ⟨by omega, a2, a3, q + 1, by rw [Nat.succ_mul]; omega⟩
    · rw [if_neg h1] at h; cases h
theorem drawF_same (bs bs' : List Nat) (c k : Nat) : ∀ (f at' x u : Nat), drawF bs c k f at' = some (x, u) → u ≤ 8 * bs'.length → (∀ i, i < u → bitAt bs i = bitAt bs' i) → drawF bs' c k f at' = some (x, u)
  | 0, at', x, u, h, _, _ => by cases h
  | f + 1, at', x, u, h, hu, hb => by
    have ha := (drawF_at bs c k (f + 1) at' x u h).1
    have e := bitsV_congr (at' := at') k (fun i h1 h2 => hb i (by omega))
    rw [drawF_step] at h ⊢
    by_cases h1 : at' + k ≤ 8 * bs.length
    · rw [if_pos h1] at h
      rw [if_pos (by omega), ← e]
      by_cases h2 : bitsV bs at' k < c
      · rw [if_pos h2] at h ⊢; exact h
      · rw [if_neg h2] at h ⊢
        exact drawF_same bs bs' c k f _ x u h hu hb
    · rw [if_neg h1] at h; cases h
theorem drawF_less (bs bs' : List Nat) (c k : Nat) : ∀ (f at' x u : Nat), drawF bs c k f at' = some (x, u) → 8 * bs'.length < u → (∀ i, i < 8 * bs'.length → bitAt bs i = bitAt bs' i) → ∀ g, drawF bs' c k g at' = none
  | 0, at', x, u, h, _, _, _ => by cases h
  | f + 1, at', x, u, h, hu, hb, 0 => rfl
  | f + 1, at', x, u, h, hu, hb, g + 1 => by
    rw [drawF_step] at h ⊢
    by_cases h3 : at' + k ≤ 8 * bs'.length
    · have e := bitsV_congr (at' := at') k (fun i h1 h2 => hb i (by omega))
      rw [if_pos h3, ← e]
      by_cases h1 : at' + k ≤ 8 * bs.length
      · rw [if_pos h1] at h
        by_cases h2 : bitsV bs at' k < c
        · rw [if_pos h2] at h
          cases h
          omega
        · rw [if_neg h2] at h ⊢
          exact drawF_less bs bs' c k f _ x u h hu hb g
      · rw [if_neg h1] at h; cases h
    · rw [if_neg h3]
theorem drawN_at {c : Nat} {bs : List Nat} {x u : Nat} (h : drawN c bs = some (x, u)) : u ≤ 8 * bs.length ∧ x < c ∧ (∃ q, u = q * nd 2 (c - 1)) ∧ nd 2 (c - 1) ≤ u := by
  obtain ⟨a1, a2, a3, q, a4⟩ := drawF_at _ _ _ _ _ _ _ h
  exact ⟨a2, a3, ⟨q, by omega⟩, by omega⟩
theorem drawN_same {c : Nat} {bs bs' : List Nat} {x u : Nat} (h : drawN c bs = some (x, u)) (hu : u ≤ 8 * bs'.length) (hb : ∀ i, i < u → bitAt bs i = bitAt bs' i) : drawN c bs' = some (x, u) := by
  have hc := (drawN_at h).2.1
  unfold drawN at h ⊢
  have h1 := drawF_mono _ _ _ _ (8 * bs'.length + 1) _ _ (drawF_same bs bs' _ _ _ _ _ _ h hu hb)
  rw [Nat.add_comm, drawF_enough _ _ _ (fun _ => by omega) _ _ (by omega)] at h1
  exact h1
theorem drawN_less {c : Nat} {bs bs' : List Nat} {x u : Nat} (h : drawN c bs = some (x, u)) (hu : 8 * bs'.length < u) (hb : ∀ i, i < 8 * bs'.length → bitAt bs i = bitAt bs' i) : drawN c bs' = none :=
  drawF_less bs bs' _ _ _ _ _ _ h hu hb _
/-- A byte whose bits from the r-th on are turned. -/
def flip (b r : Nat) : Nat := b ^^^ (255 / 2 ^ r)
theorem flip_bit (b r j : Nat) (hr : r < 8) (hj : j < r) : flip b r / 2 ^ (7 - j) % 2 = b / 2 ^ (7 - j) % 2 := by
  have hm : ∀ r, r < 8 → ∀ j, j < r → 255 / 2 ^ r < 2 ^ (7 - j) := by decide
  rw [← Nat.toNat_testBit, ← Nat.toNat_testBit]
  unfold flip
  rw [Nat.testBit_xor, Nat.testBit_lt_two_pow (hm r hr j hj), Bool.xor_false]
theorem flip_lt (b r : Nat) (hb : b < 256) : flip b r < 256 := by
  have : 255 / 2 ^ r < 2 ^ 8 := Nat.lt_of_le_of_lt (Nat.div_le_self _ _) (by decide)
  exact Nat.xor_lt_two_pow (n := 8) hb this
/-- The bits that are read, the others of the last byte turned, and other bytes. -/
def nextB (bs : List Nat) (u : Nat) (other : List Nat) : List Nat :=
  (if u % 8 = 0 then bs.take ((u + 7) / 8) else (bs.take ((u + 7) / 8)).set (u / 8) (flip (bs.getD (u / 8) 0) (u % 8))) ++ other
theorem nextB_len (bs : List Nat) (u : Nat) (other : List Nat) (hu : u ≤ 8 * bs.length) : (nextB bs u other).length = (u + 7) / 8 + other.length := by
  unfold nextB
  rw [List.length_append]
  split <;> simp <;> omega
theorem nextB_bit (bs : List Nat) (u : Nat) (other : List Nat) (hu : u ≤ 8 * bs.length) (i : Nat) (hi : i < u) : bitAt (nextB bs u other) i = bitAt bs i := by
  have hlt : i / 8 < (bs.take ((u + 7) / 8)).length := by simp; omega
  have ht : (bs.take ((u + 7) / 8)).getD (i / 8) 0 = bs.getD (i / 8) 0 := by
    rw [List.getD_eq_getElem?_getD, List.getD_eq_getElem?_getD, List.getElem?_take_of_lt (by omega)]
  unfold bitAt nextB
  by_cases h0 : u % 8 = 0
  · rw [if_pos h0, List.getD_eq_getElem?_getD, List.getElem?_append_left hlt, ← List.getD_eq_getElem?_getD, ht]
  · rw [if_neg h0, List.getD_eq_getElem?_getD, List.getElem?_append_left (by simpa using hlt), List.getElem?_set]
    by_cases h1 : u / 8 = i / 8
    · have h2 : i % 8 < u % 8 := by omega
      rw [if_pos h1, if_pos (by omega)]
      show flip (bs.getD (u / 8) 0) (u % 8) / 2 ^ (7 - i % 8) % 2 = _
      rw [flip_bit _ _ _ (by omega) h2, h1]
    · rw [if_neg h1, ← List.getD_eq_getElem?_getD, ht]
theorem take_bit (bs : List Nat) (m : Nat) (hm : m ≤ bs.length) (i : Nat) (hi : i < 8 * (bs.take m).length) : bitAt bs i = bitAt (bs.take m) i := by
  unfold bitAt
  rw [List.length_take, Nat.min_eq_left hm] at hi
  rw [List.getD_eq_getElem?_getD, List.getD_eq_getElem?_getD, List.getElem?_take_of_lt (by omega)]
end Cs
end
