import Derived.Test.YtgnobohfnhpkdaaGreatDoorM1
set_option linter.unusedSimpArgs false
set_option linter.unusedVariables false
section
namespace Cs
def bitAt (bs : List Nat) (i : Nat) : Nat := bs.getD (i / 8) 0 / 2 ^ (7 - i % 8) % 2
def bitsV (bs : List Nat) (at' : Nat) : Nat → Nat
 | 0 => 0
 | m + 1 => bitsV bs at' m + bitsV bs at' m + bitAt bs (at' + m)
theorem bitAt_lt (bs : List Nat) (i : Nat) : bitAt bs i < 2 := Nat.mod_lt _ (by decide)
theorem bitsV_lt (bs : List Nat) (at' : Nat) : ∀ m, bitsV bs at' m < 2 ^ m
 | 0 => Nat.one_pos
 | m + 1 => by
   have h1 := bitsV_lt bs at' m;have h2 := bitAt_lt bs (at' + m);show bitsV bs at' m + bitsV bs at' m + bitAt bs (at' + m) < 2 ^ (m + 1);rw [Nat.pow_succ];omega
def drawF (bs : List Nat) (c k : Nat) : Nat → Nat → Option (Nat × Nat)
 | 0, _ => none
 | f + 1, at' => if at' + k ≤ 8 * bs.length then (if bitsV bs at' k < c then some (bitsV bs at' k, at' + k) else drawF bs c k f (at' + k)) else none
def drawN (c : Nat) (bs : List Nat) : Option (Nat × Nat) := drawF bs c (nd 2 (c - 1)) (8 * bs.length + 1) 0
theorem drawF_more (bs : List Nat) (c k : Nat) (hk : k = 0 → 0 < c) : ∀ (f at' : Nat), 8 * bs.length < at' + f → drawF bs c k (f + 1) at' = drawF bs c k f at'
 | 0, at', h => by
   show (if at' + k ≤ 8 * bs.length then _ else none) = none;rw [if_neg (by omega)]
 | f + 1, at', h => by
   show (if at' + k ≤ 8 * bs.length then (if bitsV bs at' k < c then some (bitsV bs at' k, at' + k) else drawF bs c k (f + 1) (at' + k)) else none) = (if at' + k ≤ 8 * bs.length then (if bitsV bs at' k < c then some (bitsV bs at' k, at' + k) else drawF bs c k f (at' + k)) else none);by_cases h1 : at' + k ≤ 8 * bs.length
   ·rw [if_pos h1, if_pos h1];by_cases h2 : bitsV bs at' k < c
    ·rw [if_pos h2, if_pos h2]
    ·rw [if_neg h2, if_neg h2]
     have hk0 : 0 < k := by
      rcases Nat.eq_zero_or_pos k with h3 | h3
      ·subst h3;exact absurd (hk rfl) (by simpa [bitsV] using h2)
      ·exact h3
     exact drawF_more bs c k hk f (at' + k) (by omega)
   ·rw [if_neg h1, if_neg h1]
theorem drawN_turn (bs : List Nat) (c k : Nat) (hk : k = 0 → 0 < c) (f at' : Nat) (h : 8 * bs.length < at' + f) :
  drawF bs c k f at' = if at' + k ≤ 8 * bs.length then (if bitsV bs at' k < c then some (bitsV bs at' k, at' + k) else drawF bs c k f (at' + k)) else none := by
 rw [← drawF_more bs c k hk f at' h]; rfl
end Cs
end
section
namespace Cs
theorem drawF_step (bs : List Nat) (c k f at' : Nat) : drawF bs c k (f + 1) at' = if at' + k ≤ 8 * bs.length then (if bitsV bs at' k < c then some (bitsV bs at' k, at' + k) else drawF bs c k f (at' + k)) else none := rfl
theorem drawF_at (bs : List Nat) (c k : Nat) : ∀ (f at' x u : Nat), drawF bs c k f at' = some (x, u) → at' + k ≤ u ∧ u ≤ 8 * bs.length ∧ x < c ∧ ∃ q, u = at' + q * k
 | 0, at', x, u, h => by cases h
 | f + 1, at', x, u, h => by
   rw [drawF_step] at h;by_cases h1 : at' + k ≤ 8 * bs.length
   ·rw [if_pos h1] at h;by_cases h2 : bitsV bs at' k < c
    ·rw [if_pos h2] at h;cases h;exact ⟨Nat.le_refl _, h1, h2, 1, by omega⟩
    ·rw [if_neg h2] at h;obtain ⟨a1, a2, a3, q, a4⟩ := drawF_at bs c k f _ x u h;exact ⟨by omega, a2, a3, q + 1, by rw [Nat.succ_mul]; omega⟩
   ·rw [if_neg h1] at h; cases h
theorem drawN_at {c : Nat} {bs : List Nat} {x u : Nat} (h : drawN c bs = some (x, u)) : u ≤ 8 * bs.length ∧ x < c ∧ (∃ q, u = q * nd 2 (c - 1)) ∧ nd 2 (c - 1) ≤ u := by
 obtain ⟨a1, a2, a3, q, a4⟩ := drawF_at _ _ _ _ _ _ _ h;exact ⟨a2, a3, ⟨q, by omega⟩, by omega⟩
end Cs
end
