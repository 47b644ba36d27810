import Derived.Sort.Statements
import Derived.Lib.SlicesCompact
open Go
namespace Cs
def keyL (a : Int) : Int := if a < 0 then -(2 * a) else 2 * a + 1
theorem keyL_inj {a b : Int} (h : keyL a = keyL b) : a = b := by
 unfold keyL at h
 split at h <;> split at h <;> omega
def cmpL (a b : Int) : Int := if a.natAbs ≠ b.natAbs then (a.natAbs : Int) - b.natAbs else a - b
theorem cmpL_lt (a b : Int) : cmpL a b < 0 ↔ keyL a < keyL b := by
 unfold cmpL keyL
 split <;> split <;> split <;> omega
abbrev VL := {x : Int // x.natAbs ≤ 128}
instance : Inhabited VL := ⟨⟨1, by decide⟩⟩
theorem opp_iff {C : List Int} (hs : C.Pairwise fun x y => keyL x < keyL y) (h0 : ∀ x ∈ C, x ≠ 0) : (∃ i, i + 1 < C.length ∧ C.getD (i + 1) 0 = -C.getD i 0) ↔ ∃ x ∈ C, -x ∈ C := by
 have gm : ∀ i, i < C.length → C.getD i 0 ∈ C := fun i hi => by
  rw [List.getD_eq_getElem?_getD, List.getElem?_eq_getElem hi]; exact List.getElem_mem hi
 have hp : ∀ i j, i < j → j < C.length → keyL (C.getD i 0) < keyL (C.getD j 0) := fun i j hij hj => by
  have := List.pairwise_iff_getElem.1 hs i j (by omega) hj hij;rw [List.getD_eq_getElem?_getD, List.getElem?_eq_getElem (by omega), List.getD_eq_getElem?_getD, List.getElem?_eq_getElem hj];exact this
 constructor
 ·rintro ⟨i, hi, e⟩;exact ⟨C.getD i 0, gm i (by omega), by rw [← e]; exact gm _ hi⟩
 ·rintro ⟨x, hx, hy⟩
  have main : ∀ y : Int, 0 < y → y ∈ C → -y ∈ C → ∃ i, i + 1 < C.length ∧ C.getD (i + 1) 0 = -C.getD i 0 := fun y hy0 h1 h2 => by
   obtain ⟨j, hj, ej⟩ := List.mem_iff_getElem.1 h1;obtain ⟨i, hi, ei⟩ := List.mem_iff_getElem.1 h2
   have dj : C.getD j 0 = y := by rw [List.getD_eq_getElem?_getD, List.getElem?_eq_getElem hj]; exact ej
   have di : C.getD i 0 = -y := by rw [List.getD_eq_getElem?_getD, List.getElem?_eq_getElem hi]; exact ei
   have ky : keyL y = 2 * y + 1 := by unfold keyL; split <;> omega
   have kn : keyL (-y) = 2 * y := by unfold keyL; split <;> omega
   have hij : i < j := by
    rcases Nat.lt_trichotomy i j with h | h | h
    ·exact h
    ·subst h; rw [di] at dj; omega
    ·have := hp j i h hi;rw [di, dj] at this;omega
   have hnext : i + 1 = j := by
    rcases Nat.lt_or_ge (i + 1) j with h | h
    ·have a := hp i (i + 1) (by omega) (by omega);have b := hp (i + 1) j h hj;rw [di] at a;rw [dj] at b;omega
    ·omega
   exact ⟨i, by omega, by rw [hnext, dj, di]; omega⟩
  have hx0 := h0 x hx;rcases Int.lt_or_le 0 x with h | h
  ·exact main x h hx hy
  ·exact main (-x) (by omega) hy (by rw [Int.neg_neg]; exact hx)
section
open Go.Lib Go.Sort
variable {d : Array VL}
theorem get_mem (i : Nat) (hi : i < d.size) : d[i]! ∈ d.toList := by
 rw [getElem!_pos d i hi];exact Array.getElem_mem_toList hi
theorem compact_mem (x : VL) : x ∈ compactUpTo d d.size ↔ x ∈ d.toList := by
 unfold compactUpTo;rw [List.mem_map]
 constructor
 ·rintro ⟨i, hi, rfl⟩;rw [List.mem_filter, List.mem_range] at hi;exact get_mem i hi.1
 ·intro hx;obtain ⟨i, hi, e⟩ := List.mem_iff_getElem.1 hx
  have hi' : i < d.size := by simpa using hi
  have ei : d[i]! = x := by rw [getElem!_pos d i hi']; simpa using e
  have : ∀ m i, i ≤ m → i < d.size → d[i]! = x → ∃ j, j < d.size ∧ keeps d j = true ∧ d[j]! = x := fun m => by
   induction m with
   | zero =>
     intro i h1 h2 h3
     obtain rfl : i = 0 := by omega
     exact ⟨0, h2, decide_eq_true (Or.inl rfl), h3⟩
   | succ m ih =>
     intro i h1 h2 h3;by_cases hk : keeps d i = true
     ·exact ⟨i, h2, hk, h3⟩
     ·unfold keeps at hk;rw [decide_eq_true_eq, not_or] at hk;have : d[i]! = d[i - 1]! := Classical.byContradiction fun h => hk.2 h;exact ih (i - 1) (by omega) (by omega) (by rw [← this]; exact h3)
  obtain ⟨j, hj, hk, e2⟩ := this i i (Nat.le_refl _) hi' ei;exact ⟨j, List.mem_filter.2 ⟨List.mem_range.2 hj, hk⟩, e2⟩
theorem compact_strict (hs : ∀ i j, i < j → j < d.size → keyL d[i]!.1 ≤ keyL d[j]!.1) : ((compactUpTo d d.size).map (·.1)).Pairwise fun x y => keyL x < keyL y := by
 rw [List.pairwise_map];unfold compactUpTo;rw [List.pairwise_map];have hr : ((List.range d.size).filter (keeps d)).Pairwise (· < ·) := List.Pairwise.filter _ List.pairwise_lt_range;refine hr.imp_of_mem ?_;intro i j hi hj hij;rw [List.mem_filter, List.mem_range] at hi hj;have hk := hj.2;unfold keeps at hk;rw [decide_eq_true_eq] at hk;have hne : d[j]! ≠ d[j - 1]! := hk.resolve_left (by omega);have h1 : keyL d[j - 1]!.1 ≤ keyL d[j]!.1 := hs (j - 1) j (by omega) hj.1
 have h2 : keyL d[i]!.1 ≤ keyL d[j - 1]!.1 := by
  rcases Nat.lt_or_ge i (j - 1) with h | h
  ·exact hs i (j - 1) h (by omega)
  ·rw [show i = j - 1 by omega]; exact Int.le_refl _
 have h3 : keyL d[j - 1]!.1 ≠ keyL d[j]!.1 := fun h => hne (Subtype.ext (keyL_inj h.symm));omega
end
def vlOf (x : Int) : VL := if h : x.natAbs ≤ 128 then ⟨x, h⟩ else ⟨1, by decide⟩
theorem vlOf_val {x : Int} (h : x.natAbs ≤ 128) : (vlOf x).1 = x := by
 unfold vlOf;rw [dif_pos h]
abbrev R64 := {x : Int // -9223372036854775808 ≤ x ∧ x ≤ 9223372036854775807}
instance : Inhabited R64 := ⟨⟨0, by decide⟩⟩
def r64Of (x : Int) : R64 := if h : -9223372036854775808 ≤ x ∧ x ≤ 9223372036854775807 then ⟨x, h⟩ else ⟨0, by decide⟩
theorem r64Of_val {x : Int} (h : -9223372036854775808 ≤ x ∧ x ≤ 9223372036854775807) : (r64Of x).1 = x := by
 unfold r64Of;rw [dif_pos h]
end Cs
