/- The reference's sums with the weights 1 and 0 are the ring of counts. -/
import Derived.Test.YtcgejdlfiemjaaaDoorSV
import Derived.Test.YtcgejdlfiemjaaaDoorR6
import Derived.Test.YtcgejdlfiemjaaaDoorC1
set_option linter.unusedSimpArgs false
set_option linter.unusedVariables false
open Go Go.RowKit Cs
namespace Cs
/-- A polynomial that is a number. -/
def numP (p : List Nat) (v : Nat) : Prop := p.length ≤ 1 ∧ ev p = v
theorem numP_get {p : List Nat} {v : Nat} (h : numP p v) : p.getD 0 0 = v := by
  obtain ⟨h1, h2⟩ := h
  match p, h1 with
  | [], _ => rw [← h2]; rfl
  | [a], _ => rw [← h2]; simp [ev]
theorem numP_add {a b : List Nat} {x y : Nat} (h1 : numP a x) (h2 : numP b y) : numP (trimP (addP a b)) (x + y) := by
  refine ⟨?_, by rw [ev_trimP, ev_addP, h1.2, h2.2]⟩
  rw [trimP_len]
  refine Nat.le_trans (tn_le _) ?_
  rw [addP_len]
  have := h1.1; have := h2.1; omega
theorem numP_mul {a b : List Nat} {x y : Nat} (h1 : numP a x) (h2 : numP b y) : numP (trimP (mulF a b)) (x * y) := by
  refine ⟨?_, by rw [ev_trimP, ev_mulF, h1.2, h2.2]⟩
  rw [trimP_len]
  exact mulF_tn a b [1] [1] h1.1 h2.1
theorem litOk_pos {v n : Int} (h1 : 1 ≤ v) (h2 : v ≤ n) (hn : n ≤ 128) : litOk v n = true ∧ litOk (-v) n = true := by
  unfold litOk litVar
  constructor <;> refine decide_eq_true ?_ <;> (repeat' split) <;> omega
theorem litOk_rng {l n : Int} (h : litOk l n = true) : (1 ≤ l ∧ l ≤ n) ∨ (l ≤ -1 ∧ -l ≤ n) := by
  unfold litOk litVar at h
  have h := of_decide_eq_true h
  revert h
  (repeat' split) <;> intro h <;> omega
theorem RF_RN {lw hw : List (List Nat)} {nt n : Int} (hn : n ≤ 128) (h : ∀ l, litOk l n = true → numP ((RF lw hw).lit l) (wt nt l)) : Rv (RF lw hw) (RN nt) n numP where
  zero := ⟨Nat.zero_le _, rfl⟩
  one := ⟨Nat.le_refl _, rfl⟩
  add := fun _ _ _ _ h1 h2 => numP_add h1 h2
  mul := fun _ _ _ _ h1 h2 => numP_mul h1 h2
  lit := h
  both := fun v h1 h2 => by
    obtain ⟨h3, h4⟩ := litOk_pos h1 h2 hn
    have h5 := h _ h3
    have h6 := h _ h4
    have e5 : (RF lw hw).lit v = hw.getD v.toNat [] := by show (if 0 < v then _ else _) = _; rw [if_pos (by omega)]
    have e6 : (RF lw hw).lit (-v) = lw.getD v.toNat [] := by show (if 0 < -v then _ else _) = _; rw [if_neg (by omega), Int.neg_neg]
    rw [e5] at h5
    rw [e6] at h6
    show numP (trimP (addP (lw.getD v.toNat []) (hw.getD v.toNat []))) (wt nt v + wt nt (-v))
    rw [Nat.add_comm]
    exact numP_add h6 h5
/-- The weights 1, with a hole at h (0: none). -/
def onesW (n h : Nat) : List (List Nat) := if h = 0 then List.replicate (n + 1) [1] else (List.replicate (n + 1) [1]).set h []
theorem onesW_len (n h : Nat) : (onesW n h).length = n + 1 := by unfold onesW; split <;> simp
theorem onesW_get (n h i : Nat) : (onesW n h).getD i [] = if i ≤ n ∧ (i ≠ h ∨ h = 0) then [1] else [] := by
  unfold onesW
  rw [List.getD_eq_getElem?_getD]
  by_cases h0 : h = 0
  · rw [if_pos h0, List.getElem?_replicate]
    by_cases h1 : i < n + 1
    · rw [if_pos h1, if_pos ⟨by omega, .inr h0⟩]; rfl
    · rw [if_neg h1, if_neg (by omega)]; rfl
  · rw [if_neg h0, List.getElem?_set]
    simp only [List.length_replicate]
    by_cases h1 : h = i
    · subst h1
      have hc : ¬ (h ≤ n ∧ (h ≠ h ∨ h = 0)) := fun h => by omega
      rw [if_pos rfl, if_neg hc]
      split
      · rfl
      · rfl
    · rw [if_neg h1, List.getElem?_replicate]
      by_cases h2 : i < n + 1
      · rw [if_pos h2, if_pos ⟨by omega, .inl (by omega)⟩]; rfl
      · rw [if_neg h2, if_neg (by omega)]; rfl
theorem onesW_ok (n a b : Nat) : WOK (onesW n a) (onesW n b) := fun i => by
  have h : ∀ h, ((onesW n h).getD i []).length ≤ 1 ∧ ev ((onesW n h).getD i []) ≤ 1 := fun h => by
    rw [onesW_get]; split
    · exact ⟨Nat.le_refl _, Nat.le_refl _⟩
    · exact ⟨Nat.zero_le _, Nat.zero_le _⟩
  exact ⟨(h a).1, (h a).2, Nat.le_trans (h b).1 (by decide), (h b).2⟩
theorem onesW_lit (n a b : Nat) (hab : a = 0 ∨ b = 0) (l : Int) (hl : litOk l n = true) : numP ((RF (onesW n a) (onesW n b)).lit l) (wt (if a ≠ 0 then -(a : Int) else (b : Int)) l) := by
  have hr := litOk_rng hl
  show numP (if 0 < l then (onesW n b).getD l.toNat [] else (onesW n a).getD (-l).toNat []) _
  obtain ⟨nt, hnt⟩ : ∃ nt, (if a ≠ 0 then -(a : Int) else (b : Int)) = nt := ⟨_, rfl⟩
  rw [hnt]
  have hn2 : (a ≠ 0 ∧ nt = -(a : Int)) ∨ (a = 0 ∧ nt = (b : Int)) := by
    by_cases h : a ≠ 0
    · rw [if_pos h] at hnt; exact .inl ⟨h, hnt.symm⟩
    · rw [if_neg h] at hnt; exact .inr ⟨by omega, hnt.symm⟩
  clear hnt hl
  unfold wt
  by_cases h0 : 0 < l
  · rw [if_pos h0, onesW_get]
    by_cases h2 : l = nt
    · rw [if_pos h2, if_neg (fun h => by omega)]; exact ⟨Nat.zero_le _, rfl⟩
    · rw [if_neg h2, if_pos ⟨by omega, by omega⟩]; exact ⟨Nat.le_refl _, rfl⟩
  · rw [if_neg h0, onesW_get]
    by_cases h2 : l = nt
    · rw [if_pos h2, if_neg (fun h => by omega)]; exact ⟨Nat.zero_le _, rfl⟩
    · rw [if_neg h2, if_pos ⟨by omega, by omega⟩]; exact ⟨Nat.le_refl _, rfl⟩
theorem ones_sum {N : Nt} (hv : vld N = true) (n a b : Nat) (hn : N.n = (n : Int)) (hab : a = 0 ∨ b = 0) : numP ((RF (onesW n a) (onesW n b)).sum N) ((RN (if a ≠ 0 then -(a : Int) else (b : Int))).sum N) :=
  Rv.sum (RF_RN (vld_bounds hv).2.1 fun l hl => onesW_lit n a b hab l (hn ▸ hl)) hv
end Cs
