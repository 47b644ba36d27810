/- Sums over valid nets ask only for the weights of the literals that can be. -/
import Derived.Test.YtcgejdlfiemjaaaDoorByCard
import Derived.Test.YtcgejdlfiemjaaaDoorShort
set_option linter.unusedSimpArgs false
set_option linter.unusedVariables false
open Go Go.RowKit Cs
namespace Cs
section
variable {α : Type}
/-- A ring with the weights of the literals over 1 to n alone. -/
def Rg.cut (R : Rg α) (n : Int) : Rg α := ⟨R.zero, R.one, R.add, R.mul, fun l => if litOk l n then R.lit l else R.zero, fun v => if 1 ≤ v ∧ v ≤ n then R.both v else R.zero⟩
theorem vl_mem {s : Nat} {v : Int} (h : v ∈ vl s) : ∃ i : Nat, s.testBit i = true ∧ v = (i : Int) + 1 := by
  rw [vl_eq] at h
  obtain ⟨a, ha, rfl⟩ := List.mem_map.1 h
  unfold vlist at ha
  obtain ⟨i, hi, rfl⟩ := List.mem_map.1 ha
  rw [List.mem_filter] at hi
  exact ⟨i, hi.2, by simp⟩
variable (R : Rg α) (n : Int)
theorem cut_wide : ∀ (vs : List Int) (x : α), (∀ v, v ∈ vs → 1 ≤ v ∧ v ≤ n) → (R.cut n).wide x vs = R.wide x vs
  | [], x, _ => rfl
  | v :: vs, x, h => by
    have h1 := h v (by simp)
    show (R.cut n).wide (R.mul x (if 1 ≤ v ∧ v ≤ n then R.both v else R.zero)) vs = R.wide (R.mul x (R.both v)) vs
    rw [if_pos h1]
    exact cut_wide vs _ fun v hv => h v (by simp [hv])
theorem cut_gap (O : List Nat) (acc : List α) (all k : Nat) (h : ∀ i, all.testBit i = true → (i : Int) < n) : (R.cut n).gap O acc all k = R.gap O acc all k := by
  unfold Rg.gap
  refine cut_wide R n _ _ fun v hv => ?_
  obtain ⟨i, hi, rfl⟩ := vl_mem hv
  rw [minus_bit, Bool.and_eq_true] at hi
  have := h i hi.1
  omega
theorem cut_start (x : Nd) (b : Int) (h : formed x n b = true) : (R.cut n).start x = R.start x := by
  unfold Rg.start
  by_cases h2 : x.kind = 2
  · rw [if_pos h2, if_pos h2]
    have hlit : litOk x.lit n = true := by
      rcases formed_kind h with ⟨_, h3⟩ | h1 | h1
      · unfold formed at h
        rw [List.length_eq_zero_iff.1 h3] at h
        simp [h2] at h
        exact h
      · omega
      · omega
    show (if litOk x.lit n = true then R.lit x.lit else R.zero) = _
    rw [if_pos hlit]
  · rw [if_neg h2, if_neg h2]; rfl
theorem cut_fold (O : List Nat) (acc : List α) (x : Nd) (h : ∀ i, (O.getD acc.length 0).testBit i = true → (i : Int) < n) : ∀ (ks : List Int) (s : α), ks.foldl ((R.cut n).in1 O acc x) s = ks.foldl (R.in1 O acc x) s
  | [], s => rfl
  | k :: ks, s => by
    have h1 : (R.cut n).in1 O acc x s k = R.in1 O acc x s k := by
      unfold Rg.in1
      split
      · rfl
      · show R.add s ((R.cut n).gap O acc (O.getD acc.length 0) k.toNat) = _
        rw [cut_gap R n O acc _ _ h]
    show ks.foldl _ ((R.cut n).in1 O acc x s k) = ks.foldl _ (R.in1 O acc x s k)
    rw [h1]
    exact cut_fold O acc x h ks _
theorem cut_sum {N : Nt} (hv : vld N = true) : (R.cut N.n).sum N = R.sum N := by
  have hsc : ∀ k, k ≤ N.l.length → scan ((R.cut N.n).step (own N.l)) [] (N.l.take k) = scan (R.step (own N.l)) [] (N.l.take k) := by
    intro k
    induction k with
    | zero => intro _; rfl
    | succ k ih =>
      intro hk
      have h1 := ih (by omega)
      rw [scan_take _ _ k (by omega), scan_take _ _ k (by omega), h1]
      congr 2
      unfold Rg.step
      rw [cut_start R N.n _ _ (vld_formed hv k (by omega))]
      refine cut_fold R N.n _ _ _ (fun i hi => ?_) _ _
      rw [scan_len _ _ _ (by omega)] at hi
      exact own_sub hv N.l.length k (by omega) (by omega) i hi
  have h2 := hsc N.l.length (Nat.le_refl _)
  rw [List.take_length] at h2
  unfold Rg.sum Rg.all
  rw [h2]
  obtain ⟨hn0, hn1, _, _⟩ := vld_bounds hv
  refine cut_gap R N.n _ _ _ _ fun i hi => ?_
  rw [allTo_bit] at hi
  simp at hi
  omega
end
/-- A relation that the operations keep, and the weights of the literals over 1 to n. -/
structure Rv {α β : Type} (R : Rg α) (S : Rg β) (n : Int) (r : α → β → Prop) : Prop where
  zero : r R.zero S.zero
  one : r R.one S.one
  add : ∀ a b c d, r a b → r c d → r (R.add a c) (S.add b d)
  mul : ∀ a b c d, r a b → r c d → r (R.mul a c) (S.mul b d)
  lit : ∀ l, litOk l n = true → r (R.lit l) (S.lit l)
  both : ∀ v, 1 ≤ v → v ≤ n → r (R.both v) (S.both v)
theorem Rv.sum {α β : Type} {R : Rg α} {S : Rg β} {r : α → β → Prop} {N : Nt} (h : Rv R S N.n r) (hv : vld N = true) : r (R.sum N) (S.sum N) := by
  rw [← cut_sum R hv, ← cut_sum S hv]
  refine Rl.sum (R := R.cut N.n) (S := S.cut N.n) (r := r) ⟨h.zero, h.one, h.add, h.mul, fun l => ?_, fun v => ?_⟩ N
  · show r (if litOk l N.n = true then R.lit l else R.zero) (if litOk l N.n = true then S.lit l else S.zero)
    split
    · rename_i h1; exact h.lit l h1
    · exact h.zero
  · show r (if 1 ≤ v ∧ v ≤ N.n then R.both v else R.zero) (if 1 ≤ v ∧ v ≤ N.n then S.both v else S.zero)
    split
    · rename_i h1; exact h.both v h1.1 h1.2
    · exact h.zero
end Cs
