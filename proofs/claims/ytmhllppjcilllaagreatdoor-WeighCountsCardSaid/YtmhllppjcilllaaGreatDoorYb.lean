import Derived.Test.YtmhllppjcilllaaGreatDoorDt
import Derived.Test.YtmhllppjcilllaaGreatDoorQ2
set_option linter.unusedSimpArgs false
set_option linter.unusedVariables false
section
open Go Go.RowKit Cs
namespace Cs
def zr (L : List Pr) (v : Nat) : List Pr := L.set v (0, 0)
theorem S0_zero : S0 (0, 0) := by constructor <;> (show n8 0 ≤ _; rw [n8_zero]; omega)
def totN (N : Nt) (n : Nat) (lo hi : List Pr) : Nat := ((RP n lo hi).sum N).1
structure Ch where
 r : Nat
 lo : List Pr
 hi : List Pr
 a : Nat
def Ch.step (N : Nt) (n : Nat) (s : Ch) (v : Nat) : Ch :=
 if totN N n s.lo (zr s.hi v) ≤ s.r then ⟨s.r - totN N n s.lo (zr s.hi v), zr s.lo v, s.hi, s.a ||| 2 ^ (v - 1)⟩ else ⟨s.r, s.lo, zr s.hi v, s.a⟩
def Ch.run (N : Nt) (n : Nat) (s : Ch) : Nat → Ch
 | 0 => s
 | m + 1 => (Ch.run N n s m).step N n (m + 1)
end Cs
end
section
open Go Go.RowKit Cs
namespace Cs
section
variable {α : Type} (R : Rg α) (lit' both' : Int → α)
def Rg.re : Rg α := ⟨R.zero, R.one, R.add, R.mul, lit', both'⟩
variable {R lit' both'} {n : Nat}
theorem wide_re (hb : ∀ v : Int, 1 ≤ v → v ≤ (n : Int) → R.both v = both' v) : ∀ (vs : List Int) (x : α), (∀ v ∈ vs, 1 ≤ v ∧ v ≤ (n : Int)) → R.wide x vs = (R.re lit' both').wide x vs
 | [], _, _ => rfl
 | v :: vs, x, h => by
   have h1 := h v (List.mem_cons_self ..);show R.wide (R.mul x (R.both v)) vs = (R.re lit' both').wide (R.mul x (both' v)) vs;rw [hb v h1.1 h1.2];exact wide_re hb vs _ fun u hu => h u (List.mem_cons_of_mem _ hu)
theorem gap_re (hb : ∀ v : Int, 1 ≤ v → v ≤ (n : Int) → R.both v = both' v) (O : List Nat) (acc : List α) (all k : Nat) (hall : ∀ i, all.testBit i = true → (i : Int) < (n : Int)) :
  R.gap O acc all k = (R.re lit' both').gap O acc all k := by
 refine wide_re hb _ _ fun v hv => ?_;obtain ⟨i, hi, rfl⟩ := vl_mem hv;rw [minus_bit, Bool.and_eq_true] at hi;have := hall i hi.1;omega
theorem step_re (hb : ∀ v : Int, 1 ≤ v → v ≤ (n : Int) → R.both v = both' v) (hl : ∀ l : Int, 1 ≤ l.natAbs → l.natAbs ≤ n → R.lit l = lit' l) {N : Nt} (hv : vld N = true) (hn : N.n = (n : Int)) (k : Nat) (hk : k < N.l.length) (acc : List α) (la : acc.length = k) :
  R.step (own N.l) acc N.l[k] = (R.re lit' both').step (own N.l) acc N.l[k] := by
 have hfm := vld_formed hv k hk;have hos := fun i h => own_sub hv (k + 1) k (Nat.lt_succ_self k) hk i h
 have hst : R.start N.l[k] = (R.re lit' both').start N.l[k] := by
  unfold Rg.start;by_cases h2 : N.l[k].kind = 2
  ·rw [if_pos h2, if_pos h2];have h3 := litOk_rng' (formed_litOk hfm h2).1;exact hl _ (by omega) (by omega)
  ·rw [if_neg h2, if_neg h2]; rfl
 have hin : ∀ s j, R.in1 (own N.l) acc N.l[k] s j = (R.re lit' both').in1 (own N.l) acc N.l[k] s j := fun s j => by
  unfold Rg.in1;by_cases h3 : N.l[k].kind = 1 ∨ N.l[k].kind = 3
  ·rw [if_pos h3, if_pos h3]; rfl
  ·rw [if_neg h3, if_neg h3];show R.add s _ = R.add s _;rw [la, gap_re hb (own N.l) acc ((own N.l).getD k 0) j.toNat fun i h => by have := hos i h; omega]
 unfold Rg.step;rw [hst]
 have e : R.in1 (own N.l) acc N.l[k] = (R.re lit' both').in1 (own N.l) acc N.l[k] := by funext s j; exact hin s j
 rw [e]
theorem scan_re (hb : ∀ v : Int, 1 ≤ v → v ≤ (n : Int) → R.both v = both' v) (hl : ∀ l : Int, 1 ≤ l.natAbs → l.natAbs ≤ n → R.lit l = lit' l) {N : Nt} (hv : vld N = true) (hn : N.n = (n : Int)) :
  ∀ k, k ≤ N.l.length → scan (R.step (own N.l)) [] (N.l.take k) = scan ((R.re lit' both').step (own N.l)) [] (N.l.take k)
 | 0, _ => by simp [scan]
 | k + 1, hk => by
   rw [scan_take _ _ k (by omega), scan_take _ _ k (by omega), ← scan_re hb hl hv hn k (by omega), step_re hb hl hv hn k (by omega) _ (scan_len _ _ _ (by omega))]
theorem sum_re (hb : ∀ v : Int, 1 ≤ v → v ≤ (n : Int) → R.both v = both' v) (hl : ∀ l : Int, 1 ≤ l.natAbs → l.natAbs ≤ n → R.lit l = lit' l) {N : Nt} (hv : vld N = true) (hn : N.n = (n : Int)) : R.sum N = (R.re lit' both').sum N := by
 have h := scan_re hb hl hv hn N.l.length (zqn _);rw [List.take_length] at h;unfold Rg.sum Rg.all;rw [h];refine gap_re hb _ _ _ _ fun i hi => ?_;rw [allTo_bit, decide_eq_true_eq] at hi;obtain ⟨h0, h1, _, _⟩ := vld_bounds hv;omega
end
def onesP (n : Nat) : List Pr := List.replicate (n + 1) (1, 1)
theorem onesP_get (n k : Nat) : (onesP n).getD k (0, 0) = if k < n + 1 then (1, 1) else (0, 0) := by
 unfold onesP;rw [List.getD_eq_getElem?_getD, List.getElem?_replicate]
 split <;> rfl
theorem n8_1 : n8 1 ≤ 1 := (n8_le _ _).2 (by decide)
theorem ones_in (n : Nat) : WtIn n (onesP n) (onesP n) := by
 have h1 : ∀ k, Lp ((onesP n).getD k (0, 0)) := fun k => by rw [onesP_get]; split; exact Lp.one; exact Lp.zero
 have h2 : ∀ k, Sp ((onesP n).getD k (0, 0)) := fun k => by
  rw [onesP_get];have := n8_1;split
  ·exact ⟨by show n8 1 ≤ _; omega, by show n8 1 ≤ _; omega⟩
  ·exact Sp.zero
 have h3 : S0 ((onesP n).getD 0 (0, 0)) := by
  rw [onesP_get, if_pos (by omega)];have := n8_1;exact ⟨by show n8 1 ≤ _; omega, by show n8 1 ≤ _; omega⟩
 exact ⟨by simp [onesP], by simp [onesP], h1, h1, h3, h3, h2, h2⟩
theorem ones_bits (n : Nat) : ∀ m, m ≤ n → sumB (onesP n) m = 2 * m
 | 0, _ => rfl
 | m + 1, h => by
   show sumB (onesP n) m + pbits ((onesP n).getD (m + 1) (0, 0)) = _;rw [ones_bits n m (by omega), onesP_get, if_pos (by omega)]
   have : pbits (1, 1) = 2 := by decide +kernel
   rw [this]; omega
theorem ones_plit (n : Nat) (l : Int) (h1 : 1 ≤ l.natAbs) (h2 : l.natAbs ≤ n) : plit n (onesP n) (onesP n) l = (1, 1) := by
 unfold plit;simp only [onesP_get]
 (repeat' split) <;> first | rfl | omega
end Cs
end
section
open Go Go.RowKit Cs
namespace Cs
def Wh (L : List Pr) : Prop := ∀ k, (L.getD k (0, 0)).2 ≤ 1
structure WhIn (lo hi : List Pr) : Prop where
 pl : ∀ k, Lp (lo.getD k (0, 0))
 ph : ∀ k, Lp (hi.getD k (0, 0))
 wl : Wh lo
 wh : Wh hi
theorem ones_whIn (n : Nat) : WhIn (onesP n) (onesP n) := by
 have h := ones_in n
 have h1 : Wh (onesP n) := fun k => by rw [onesP_get]; split <;> decide
 exact ⟨h.pl, h.ph, h1, h1⟩
def WN (n : Nat) (lo hi : List Pr) (l : Int) : Nat := (plit n lo hi l).1
theorem qp_wh {p : Pr} (h : p.2 ≤ 1) : qp p = (p.1 : Rat) := by
 have e : qd p.2 = 1 := by unfold qd; split <;> omega
 unfold qp;rw [← qq_qd, e];exact qq_one _
theorem WhIn.plit {lo hi : List Pr} (h : WhIn lo hi) (n : Nat) (l : Int) : Lp (plit n lo hi l) ∧ qp (plit n lo hi l) = ((WN n lo hi l : Nat) : Rat) := by
 have h2 : (Cs.plit n lo hi l).2 ≤ 1 := by
  unfold Cs.plit
  (repeat' split) <;> first | exact h.wl _ | exact h.wh _ | exact Nat.zero_le _
 refine ⟨?_, qp_wh h2⟩;unfold Cs.plit
 (repeat' split) <;> first | exact h.pl _ | exact h.ph _ | exact Lp.zero
theorem wh_rl {lo hi : List Pr} (h : WhIn lo hi) (n : Nat) : Rl (RP n lo hi) ((RN 0).wit (WN n lo hi)) (fun p m => Lp p ∧ qp p = ((m : Nat) : Rat)) where
 zero := ⟨Lp.zero, qp_zero.trans (by rfl)⟩
 one := ⟨Lp.one, qp_one.trans (by rfl)⟩
 add := fun a b c d h1 h2 => ⟨Lp.pq (Rat.add_nonneg (qp_nonneg _) (qp_nonneg _)), by
  show qp (padd a c) = ((b + d : Nat) : Rat)
  rw [qp_add, h1.2, h2.2, Rat.natCast_add]⟩
 mul := fun a b c d h1 h2 => ⟨Lp.pq (Rat.mul_nonneg (qp_nonneg _) (qp_nonneg _)), by
  show qp (pmul a c) = ((b * d : Nat) : Rat)
  rw [qp_mul, h1.2, h2.2, Rat.natCast_mul]⟩
 lit := fun l => h.plit n l
 both := fun v => ⟨Lp.pq (Rat.add_nonneg (qp_nonneg _) (qp_nonneg _)), by
  show qp (padd (Cs.plit n lo hi (-v)) (Cs.plit n lo hi v)) = ((WN n lo hi v + WN n lo hi (-v) : Nat) : Rat)
  rw [qp_add, (h.plit n v).2, (h.plit n (-v)).2, Rat.natCast_add, Rat.add_comm]⟩
end Cs
end
