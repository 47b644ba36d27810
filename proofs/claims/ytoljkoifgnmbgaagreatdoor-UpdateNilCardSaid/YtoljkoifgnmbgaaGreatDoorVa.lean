import Derived.Test.YtoljkoifgnmbgaaGreatDoorDt
import Derived.Test.YtoljkoifgnmbgaaGreatDoorQ2
section
set_option linter.unusedSimpArgs false
set_option linter.unusedVariables false
section
open Go Go.RowKit Cs
namespace Cs
def zr (L : List Pr) (v : Nat) : List Pr := L.set v (0, 0)
def totN (N : Nt) (n : Nat) (lo hi : List Pr) : Nat := ((RP n lo hi).sum N).1
structure Ch where
 r : Nat
 lo : List Pr
 hi : List Pr
 a : Nat
def Ch.step (N : Nt) (n : Nat) (s : Ch) (v : Nat) : Ch :=
 if totN N n s.lo (zr s.hi v) ≤ s.r then ⟨s.r - totN N n s.lo (zr s.hi v), zr s.lo v, s.hi, s.a ||| 2 ^ (v - 1)⟩ else ⟨s.r, s.lo, zr s.hi v, s.a⟩
def Ch.run (N : Nt) (n : Nat) (s : Ch) : Nat → Ch
 | 0 => s
 | m + 1 => (Ch.run N n s m).step N n (m + 1)
end Cs
end
section
open Go Go.RowKit Cs
namespace Cs
def Wh (L : List Pr) : Prop := ∀ k, (L.getD k (0, 0)).2 ≤ 1
end Cs
end
end
section
set_option linter.unusedSimpArgs false
set_option linter.unusedVariables false
open Go Go.RowKit Cs Go.Proofs.YtoljkoifgnmbgaaGreatDoor
namespace Cs
structure Agr {α : Type} (R S : Rg α) (v : Nat) : Prop where
 zero : R.zero = S.zero
 one : R.one = S.one
 add : R.add = S.add
 mul : R.mul = S.mul
 lit : ∀ l : Int, l.natAbs ≠ v → R.lit l = S.lit l
 both : ∀ u : Int, u.natAbs ≠ v → R.both u = S.both u
theorem foldl_same {α β : Type} {f g : α → β → α} : ∀ (l : List β) (x : α), (∀ s, ∀ b ∈ l, f s b = g s b) → l.foldl f x = l.foldl g x
 | [], _, _ => rfl
 | b :: l, x, h => by
   show l.foldl f (f x b) = l.foldl g (g x b);rw [h x b (List.mem_cons_self ..)];exact foldl_same l _ fun s c hc => h s c (List.mem_cons_of_mem _ hc)
theorem Agr.wide {α : Type} {R S : Rg α} {v : Nat} (h : Agr R S v) (vs : List Int) (x : α) (hv : ∀ u ∈ vs, u.natAbs ≠ v) : R.wide x vs = S.wide x vs := by
 unfold Rg.wide
 exact foldl_same vs x fun s u hu => by rw [h.mul, h.both u (hv u hu)]
theorem Agr.step {α : Type} {R S : Rg α} {v : Nat} (h : Agr R S v) (h1 : 1 ≤ v) {N : Nt} (hv : vld N = true) (k : Nat) (hk : k < N.l.length) (P Q : List α) (hP : P.length = k) (hQ : Q.length = k)
  (hb : ((own N.l).getD k 0).testBit (v - 1) = false) (hj : ∀ j, j < k → ((own N.l).getD j 0).testBit (v - 1) = false → P.getD j R.zero = Q.getD j S.zero) : R.step (own N.l) P N.l[k] = S.step (own N.l) Q N.l[k] := by
 have hf := vld_formed hv k hk;have hmem := formed_mem hf
 have hjb : ∀ j : Int, j ∈ N.l[k].ins → ((own N.l).getD j.toNat 0).testBit (v - 1) = false := fun j hj => by
  cases hc : ((own N.l).getD j.toNat 0).testBit (v - 1)
  ·rfl
  ·rw [own_ins hv k hk j hj _ hc] at hb; exact absurd hb (by decide)
 have hs : R.start N.l[k] = S.start N.l[k] := by
  unfold Rg.start;by_cases h2 : N.l[k].kind = 2
  ·rw [if_pos h2, if_pos h2];refine h.lit _ fun e => ?_;rw [own_bit hv k hk, Bool.or_eq_false_iff] at hb;have hw := hb.1;rw [wth_bit] at hw;have hl := (formed_litOk hf h2).1;obtain ⟨hn0, hn1, _, _⟩ := vld_bounds hv
   have : litVar N.l[k].lit = (v : Int) := by
    unfold litOk at hl;simp at hl;have h0 := hl.1;unfold litVar at h0 ⊢;by_cases c1 : 1 ≤ N.l[k].lit ∧ N.l[k].lit ≤ 128
    ·rw [if_pos c1]; omega
    ·rw [if_neg c1] at h0 ⊢;by_cases c2 : N.l[k].lit ≤ -1 ∧ -128 ≤ N.l[k].lit
     ·rw [if_pos c2]; omega
     ·rw [if_neg c2] at h0; exact absurd rfl h0
   rw [this] at hw;exact absurd hw (by rw [decide_eq_true (by omega)]; decide)
  ·rw [if_neg h2, if_neg h2, h.one, h.zero]
 unfold Rg.step;rw [hs];refine foldl_same _ _ fun s j hjm => ?_;obtain ⟨m, rfl, hm⟩ := hmem j hjm;have hjb := hjb _ hjm;have e := hj m hm hjb;unfold Rg.in1;rw [h.mul, h.add, hP, hQ];by_cases hk3 : N.l[k].kind = 1 ∨ N.l[k].kind = 3
 ·rw [if_pos hk3, if_pos hk3];show S.mul s (P.getD m R.zero) = S.mul s (Q.getD m S.zero);rw [e]
 ·rw [if_neg hk3, if_neg hk3];unfold Rg.gap;show S.add s (R.wide (P.getD m R.zero) _) = S.add s (S.wide (Q.getD m S.zero) _);rw [e, h.wide];intro u hu;obtain ⟨i, hi, rfl⟩ := vl_mem hu;rw [minus_bit, Bool.and_eq_true] at hi;intro ev
  have : i = v - 1 := by omega
  rw [this] at hi;rw [hb] at hi;exact absurd hi.1 (by decide)
theorem Agr.at {α : Type} {R S : Rg α} {v : Nat} (h : Agr R S v) (h1 : 1 ≤ v) {N : Nt} (hv : vld N = true) : ∀ k, k ≤ N.l.length → ∀ j, j < k → ((own N.l).getD j 0).testBit (v - 1) = false →
  (scan (R.step (own N.l)) [] (N.l.take k)).getD j R.zero = (scan (S.step (own N.l)) [] (N.l.take k)).getD j S.zero
 | k + 1, hk, j, hj, hb => by
   by_cases hjk : j < k
   ·rw [scan_old (R.step (own N.l)) R.zero N.l k j (by omega) hjk, scan_old (S.step (own N.l)) S.zero N.l k j (by omega) hjk];exact Agr.at h h1 hv k (by omega) j hjk hb
   ·obtain rfl : j = k := by omega
    rw [scan_take _ _ j (by omega), scan_take _ _ j (by omega)];have la := scan_len (R.step (own N.l)) N.l j (by omega);have lb := scan_len (S.step (own N.l)) N.l j (by omega);rw [List.getD_eq_getElem?_getD, List.getElem?_append_right (by omega), List.getD_eq_getElem?_getD, List.getElem?_append_right (by omega), la, lb, Nat.sub_self];exact h.step h1 hv j (by omega) _ _ la lb hb fun i hi hbi => Agr.at h h1 hv j (by omega) i hi hbi
end Cs
namespace Cs
theorem wide_snoc {α : Type} (R : Rg α) (x : α) (vs : List Int) (k : Nat) (hk : k < vs.length) : R.wide x (vs.take (k + 1)) = R.mul (R.wide x (vs.take k)) (R.both vs[k]) := by
 unfold Rg.wide
 rw [List.take_succ_eq_append_getElem hk, List.foldl_append]; rfl
def nlit (n : Nat) (lo hi : List Nat) (l : Int) : Nat := if 1 ≤ l.natAbs ∧ l.natAbs ≤ n then (if l < 0 then lo.getD l.natAbs 0 else hi.getD l.natAbs 0) else 0
def RL (n : Nat) (lo hi : List Nat) : Rg Nat := ⟨0, 1, (· + ·), (· * ·), nlit n lo hi, fun v => nlit n lo hi (-v) + nlit n lo hi v⟩
theorem RL_both {n : Nat} {lo hi : List Nat} {v : Nat} (h1 : 1 ≤ v) (h2 : v ≤ n) : (RL n lo hi).both (v : Int) = lo.getD v 0 + hi.getD v 0 := by
 show nlit n lo hi (-(v : Int)) + nlit n lo hi (v : Int) = _;unfold nlit;rw [Int.natAbs_neg, Int.natAbs_natCast, if_pos ⟨h1, h2⟩, if_pos (by omega), if_pos ⟨h1, h2⟩, if_neg (by omega)]
theorem RP_bothV {n : Nat} {lo hi : List Pr} {v : Nat} (h1 : 1 ≤ v) (h2 : v ≤ n) : (RP n lo hi).both (v : Int) = padd (lo.getD v (0, 0)) (hi.getD v (0, 0)) := by
 show padd (plit n lo hi (-(v : Int))) (plit n lo hi (v : Int)) = _;unfold plit;rw [Int.natAbs_neg, Int.natAbs_natCast, if_pos ⟨h1, h2⟩, if_pos (by omega), if_pos ⟨h1, h2⟩, if_neg (by omega)]
end Cs
namespace Cs
section
variable {n : Nat} {lo hi : List Nat}
theorem nlit_le (h1 : ∀ k, lo.getD k 0 ≤ 1) (h2 : ∀ k, hi.getD k 0 ≤ 1) (l : Int) : nlit n lo hi l ≤ 1 := by
 unfold nlit;split
 ·split
  ·exact h1 _
  ·exact h2 _
 ·omega
theorem RL_R1 (h1 : ∀ k, lo.getD k 0 ≤ 1) (h2 : ∀ k, hi.getD k 0 ≤ 1) : Rl (RL n lo hi) R1 (· ≤ ·) where
 zero := zqn _
 one := zqn _
 add := fun _ _ _ _ h1 h2 => Nat.add_le_add h1 h2
 mul := fun _ _ _ _ h1 h2 => Nat.mul_le_mul h1 h2
 lit := fun l => nlit_le h1 h2 l
 both := fun v => by
  have a := nlit_le (n := n) h1 h2 v;have b := nlit_le (n := n) h1 h2 (-v);show nlit n lo hi (-v) + nlit n lo hi v ≤ 2;omega
theorem RL_part (h1 : ∀ k, lo.getD k 0 ≤ 1) (h2 : ∀ k, hi.getD k 0 ≤ 1) {N : Nt} (h : shortB N = true) (k : Nat) (hk : k < N.l.length) (m : Nat) :
  (N.l[k].ins.take m).foldl ((RL n lo hi).in1 (own N.l) (scan ((RL n lo hi).step (own N.l)) [] (N.l.take k)) N.l[k]) ((RL n lo hi).start N.l[k]) < big :=
 Nat.lt_of_le_of_lt ((RL_R1 h1 h2).fold ((RL_R1 h1 h2).all (own N.l) (N.l.take k)) (own N.l) N.l[k] _ _ _ ((RL_R1 h1 h2).start _)) (shortB_part h k hk m)
theorem RL_all (h1 : ∀ k, lo.getD k 0 ≤ 1) (h2 : ∀ k, hi.getD k 0 ≤ 1) {N : Nt} (h : shortB N = true) (k : Nat) : ((RL n lo hi).all (own N.l) N.l).getD k 0 < big :=
 Nat.lt_of_le_of_lt (((RL_R1 h1 h2).all (own N.l) N.l).2 k) (shortB_all h k)
theorem RL_wide (h1 : ∀ k, lo.getD k 0 ≤ 1) (h2 : ∀ k, hi.getD k 0 ≤ 1) (x : Nat) (hx : x < big) (vs : List Int) (h : vs.length ≤ 128) : (RL n lo hi).wide x vs < big * 2 ^ 200 := by
 refine Nat.lt_of_le_of_lt ((RL_R1 h1 h2).wide vs x x (zqn _)) ?_;rw [R1_wide];have h1 : 2 ^ vs.length ≤ 2 ^ 128 := Nat.pow_le_pow_right (by decide) h;have h2 : (2 : Nat) ^ 128 ≤ 2 ^ 200 := Nat.pow_le_pow_right (by decide) (by decide);exact Nat.lt_of_le_of_lt (Nat.mul_le_mul_left _ (Nat.le_trans h1 h2)) (Nat.mul_lt_mul_of_pos_right hx (Nat.two_pow_pos _))
end
end Cs
end
