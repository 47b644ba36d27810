import Derived.Test.YtmhllppjcilllaaGreatDoorQ1
import Derived.Test.YtmhllppjcilllaaGreatDoorZa
import Derived.Test.YtmhllppjcilllaaGreatDoorDt
set_option linter.unusedSimpArgs false
set_option linter.unusedVariables false
section
open Go Go.RowKit Cs
namespace Cs
section
variable {α : Type} {R : Rg α}
theorem term_null (C : CR R) (W : Int → α) (s j : Nat) (hj : (if s.testBit j then W ((j : Int) + 1) else W (-((j : Int) + 1))) = R.zero) : ∀ k, j < k → R.term W k s = R.zero
 | 0, h => absurd h (by omega)
 | k + 1, h => by
   show R.mul (R.term W k s) _ = _;rcases Nat.lt_or_ge j k with h1 | h1
   ·rw [term_null C W s j hj k h1, C.zmul]
   ·obtain rfl : j = k := by omega
    rw [hj, C.mulc, C.zmul]
theorem term_like (W V : Int → α) (s : Nat) : ∀ k, (∀ i, i < k → (if s.testBit i then W ((i : Int) + 1) else W (-((i : Int) + 1))) = (if s.testBit i then V ((i : Int) + 1) else V (-((i : Int) + 1)))) → R.term W k s = R.term V k s
 | 0, _ => rfl
 | k + 1, h => by
   show R.mul (R.term W k s) _ = R.mul (R.term V k s) _;rw [term_like W V s k (fun i hi => h i (by omega)), h k (by omega)]
theorem sum_parts (C : CR R) {N : Nt} (hv : vld N = true) (hd : dcmp N = true) (W Wl Wh : Int → α) (n : Nat) (hn : N.n = (n : Int)) (v : Nat) (h1 : 1 ≤ v) (h2 : v ≤ n)
  (hl : ∀ l, l ≠ (v : Int) → Wl l = W l) (hl0 : Wl (v : Int) = R.zero) (hh : ∀ l, l ≠ -(v : Int) → Wh l = W l) (hh0 : Wh (-(v : Int)) = R.zero) :
  (R.wit W).sum N = R.add ((R.wit Wl).sum N) ((R.wit Wh).sum N) := by
 rw [expand C hv hd W n hn, expand C hv hd Wl n hn, expand C hv hd Wh n hn, ← sumTo_add C];refine sumTo_congr _ _ _ fun s _ => ?_
 have ev : ((v - 1 : Nat) : Int) + 1 = (v : Int) := by omega
 cases hb : s.testBit (v - 1)
 ·have e1 : R.term Wh n s = R.zero := term_null C Wh s (v - 1) (by rw [hb, ev]; exact hh0) n (by omega)
  have e2 : R.term Wl n s = R.term W n s := term_like Wl W s n fun i hi => by
   split
   ·rename_i h;refine hl _ fun e => ?_
    have : i = v - 1 := by omega
    rw [this, hb] at h;cases h
   ·exact hl _ (by omega)
  rw [e1, e2, C.zmul, C.addc, C.zadd]
 ·have e1 : R.term Wl n s = R.zero := term_null C Wl s (v - 1) (by rw [hb, ev]; exact hl0) n (by omega)
  have e2 : R.term Wh n s = R.term W n s := term_like Wh W s n fun i hi => by
   split
   ·exact hh _ (by omega)
   ·rename_i h;refine hh _ fun e => ?_
    have : i = v - 1 := by omega
    rw [this, hb] at h;exact h rfl
  rw [e1, e2, C.zmul, C.zadd]
end
end Cs
end
section
open Go Go.RowKit Cs Go.Proofs.YtmhllppjcilllaaGreatDoor
namespace Cs
structure Agr {α : Type} (R S : Rg α) (v : Nat) : Prop where
 zero : R.zero = S.zero
 one : R.one = S.one
 add : R.add = S.add
 mul : R.mul = S.mul
 lit : ∀ l : Int, l.natAbs ≠ v → R.lit l = S.lit l
 both : ∀ u : Int, u.natAbs ≠ v → R.both u = S.both u
end Cs
namespace Cs
def nlit (n : Nat) (lo hi : List Nat) (l : Int) : Nat := if 1 ≤ l.natAbs ∧ l.natAbs ≤ n then (if l < 0 then lo.getD l.natAbs 0 else hi.getD l.natAbs 0) else 0
def RL (n : Nat) (lo hi : List Nat) : Rg Nat := ⟨0, 1, (· + ·), (· * ·), nlit n lo hi, fun v => nlit n lo hi (-v) + nlit n lo hi v⟩
end Cs
end
section
open Go Go.RowKit Cs Go.Proofs.YtmhllppjcilllaaGreatDoor
namespace Cs
def wLo (n : Nat) (lo : List Pr) (T : List Int) : List Pr := (List.range (n + 1)).map fun (v : Nat) => if (v : Int) ∈ T then (0, 0) else lo.getD v (0, 0)
def wHi (n : Nat) (hi : List Pr) (T : List Int) : List Pr := (List.range (n + 1)).map fun (v : Nat) => if -(v : Int) ∈ T then (0, 0) else hi.getD v (0, 0)
theorem rng_get {α : Type} (f : Nat → α) (z : α) (m v : Nat) : ((List.range m).map f).getD v z = if v < m then f v else z := by
 rw [List.getD_eq_getElem?_getD];by_cases h : v < m
 ·rw [if_pos h, List.getElem?_map, List.getElem?_range h]; rfl
 ·rw [if_neg h, List.getElem?_eq_none (by simp; omega)]; rfl
theorem rng_set {α : Type} (f g : Nat → α) (m v : Nat) (x : α) (h : ∀ u, u < m → u ≠ v → f u = g u) (hx : g v = x) : ((List.range m).map f).set v x = (List.range m).map g := by
 refine List.ext_getElem? fun i => ?_;rw [List.getElem?_set, List.getElem?_map, List.getElem?_map];by_cases hi : i < m
 ·rw [List.getElem?_range hi];by_cases e : v = i
  ·subst e
   rw [if_pos rfl, if_pos (by simp; exact hi), ← hx]; rfl
  ·rw [if_neg e];show some (f i) = some (g i);rw [h i hi (fun e2 => e e2.symm)]
 ·rw [List.getElem?_eq_none (by simp; omega)];by_cases e : v = i
  ·subst e
   rw [if_pos rfl, if_neg (by simp; omega)]; rfl
  ·rw [if_neg e]; rfl
section
variable {n : Nat} {lo hi : List Pr} {T : List Int}
theorem wLo_get (v : Nat) : (wLo n lo T).getD v (0, 0) = if v < n + 1 then (if (v : Int) ∈ T then (0, 0) else lo.getD v (0, 0)) else (0, 0) := rng_get _ _ _ _
theorem wHi_get (v : Nat) : (wHi n hi T).getD v (0, 0) = if v < n + 1 then (if -(v : Int) ∈ T then (0, 0) else hi.getD v (0, 0)) else (0, 0) := rng_get _ _ _ _
theorem wLo_len : (wLo n lo T).length = n + 1 := by simp [wLo]
theorem wHi_len : (wHi n hi T).length = n + 1 := by simp [wHi]
theorem wLo_nil (h : lo.length = n + 1) : wLo n lo [] = lo := by
 refine List.ext_getElem? fun i => ?_;unfold wLo;rw [List.getElem?_map];by_cases hi : i < n + 1
 ·rw [List.getElem?_range hi];show some (if (i : Int) ∈ [] then (0, 0) else lo.getD i (0, 0)) = _
  rw [if_neg (by simp), List.getD_eq_getElem?_getD, List.getElem?_eq_getElem (by omega)]; rfl
 ·rw [List.getElem?_eq_none (by simp; omega), List.getElem?_eq_none (by omega)]; rfl
theorem wHi_nil (h : hi.length = n + 1) : wHi n hi [] = hi := wLo_nil h
theorem mem_snoc {T : List Int} {x l : Int} : x ∈ T ++ [l] ↔ x ∈ T ∨ x = l := by simp
theorem ite_snoc {α : Type} {T : List Int} {x l : Int} (h : x ≠ l) (a b : α) : (if x ∈ T ++ [l] then a else b) = if x ∈ T then a else b := by
 have : x ∈ T ++ [l] ↔ x ∈ T := by rw [mem_snoc]; exact ⟨fun h2 => h2.resolve_right h, Or.inl⟩
 simp only [this]
theorem wLo_snoc {l : Int} (hl : 0 < l) : wLo n lo (T ++ [l]) = (wLo n lo T).set l.natAbs (0, 0) :=
 (rng_set _ _ _ _ _ (fun u hu hne => (ite_snoc (by omega) _ _).symm) (if_pos (by rw [mem_snoc]; exact Or.inr (by omega)))).symm
theorem wHi_same {l : Int} (hl : 0 < l) : wHi n hi (T ++ [l]) = wHi n hi T := List.map_congr_left fun u hu => ite_snoc (by omega) _ _
theorem wLo_same {l : Int} (hl : l < 0) : wLo n lo (T ++ [l]) = wLo n lo T := List.map_congr_left fun u hu => ite_snoc (by omega) _ _
theorem wHi_snoc {l : Int} (hl : l < 0) : wHi n hi (T ++ [l]) = (wHi n hi T).set l.natAbs (0, 0) :=
 (rng_set _ _ _ _ _ (fun u hu hne => (ite_snoc (by omega) _ _).symm) (if_pos (by rw [mem_snoc]; exact Or.inr (by omega)))).symm
theorem sumB_le {a b : List Pr} (h : ∀ k, pbits (a.getD k (0, 0)) ≤ pbits (b.getD k (0, 0))) : ∀ m, sumB a m ≤ sumB b m
 | 0 => zqn _
 | m + 1 => Nat.add_le_add (sumB_le h m) (h (m + 1))
theorem pbits_min (p : Pr) : pbits (0, 0) ≤ pbits p := by
 have h : pbits (0, 0) = 1 := by decide +kernel
 rw [h]; exact pbits_pos p
theorem S0.zero : S0 (0, 0) := by constructor <;> (show n8 0 ≤ _; rw [n8_zero]; omega)
theorem wLo_all {P : Pr → Prop} (h0 : P (0, 0)) (h : ∀ k, P (lo.getD k (0, 0))) (k : Nat) : P ((wLo n lo T).getD k (0, 0)) := by
 rw [wLo_get];split
 ·split
  ·exact h0
  ·exact h k
 ·exact h0
theorem wHi_all {P : Pr → Prop} (h0 : P (0, 0)) (h : ∀ k, P (hi.getD k (0, 0))) (k : Nat) : P ((wHi n hi T).getD k (0, 0)) := by
 rw [wHi_get];split
 ·split
  ·exact h0
  ·exact h k
 ·exact h0
theorem WtIn.under (h : WtIn n lo hi) (T : List Int) : WtIn n (wLo n lo T) (wHi n hi T) where
 ll := wLo_len
 lh := wHi_len
 pl := wLo_all Lp.zero h.pl
 ph := wHi_all Lp.zero h.ph
 l0 := by
  rw [wLo_get, if_pos (by omega)];split
  ·exact S0.zero
  ·exact h.l0
 h0 := by
  rw [wHi_get, if_pos (by omega)];split
  ·exact S0.zero
  ·exact h.h0
 sl := wLo_all Sp.zero h.sl
 sh := wHi_all Sp.zero h.sh
theorem sumB_under (T : List Int) (m : Nat) : sumB (wLo n lo T) m + sumB (wHi n hi T) m ≤ sumB lo m + sumB hi m := by
 refine Nat.add_le_add (sumB_le (fun k => ?_) m) (sumB_le (fun k => ?_) m)
 ·rw [wLo_get];split
  ·split
   ·exact pbits_min _
   ·exact zqn _
  ·exact pbits_min _
 ·rw [wHi_get];split
  ·split
   ·exact pbits_min _
   ·exact zqn _
  ·exact pbits_min _
theorem WtIn.okT (h : WtIn n lo hi) (hb : ¬ 16384 < sumB lo n + sumB hi n) (T : List Int) : WtOk n (wLo n lo T) (wHi n hi T) :=
 (h.under T).ok (by have := sumB_under (n := n) (lo := lo) (hi := hi) T n; omega)
theorem Agr.symm {α : Type} {R S : Rg α} {v : Nat} (h : Agr R S v) : Agr S R v := ⟨h.zero.symm, h.one.symm, h.add.symm, h.mul.symm, fun l hl => (h.lit l hl).symm, fun u hu => (h.both u hu).symm⟩
end
end Cs
end
