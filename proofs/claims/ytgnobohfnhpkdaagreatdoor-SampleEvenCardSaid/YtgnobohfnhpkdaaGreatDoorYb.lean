import Derived.Test.YtgnobohfnhpkdaaGreatDoorDt
import Derived.Test.YtgnobohfnhpkdaaGreatDoorQ2
set_option linter.unusedSimpArgs false
set_option linter.unusedVariables false
section
open Go Go.RowKit Cs
namespace Cs
def zr (L : List Pr) (v : Nat) : List Pr := L.set v (0, 0)
theorem zr_len (L : List Pr) (v : Nat) : (zr L v).length = L.length := by simp [zr]
theorem zr_get (L : List Pr) (v k : Nat) : (zr L v).getD k (0, 0) = if k = v then (0, 0) else L.getD k (0, 0) := by
 unfold zr;rw [List.getD_eq_getElem?_getD, List.getElem?_set, List.getD_eq_getElem?_getD];by_cases h : v = k
 ·subst h;rw [if_pos rfl, if_pos rfl]
  split <;> rfl
 ·rw [if_neg h, if_neg (Ne.symm h)]
theorem pbits_zero : pbits (0, 0) = 1 := by decide +kernel
theorem pbits_one (p : Pr) : 1 ≤ pbits p := by
 have : nd 2 (qd p.2) ≠ 0 := fun e => by rw [nd_zero_iff 2 (by decide)] at e; have := qd_pos p.2; omega
 unfold pbits; omega
theorem sumB_zr (L : List Pr) (v : Nat) : ∀ m, sumB (zr L v) m ≤ sumB L m
 | 0 => zqn _
 | m + 1 => by
   show sumB (zr L v) m + pbits ((zr L v).getD (m + 1) (0, 0)) ≤ sumB L m + pbits (L.getD (m + 1) (0, 0));have h1 := sumB_zr L v m;have h2 := pbits_one (L.getD (m + 1) (0, 0));rw [zr_get];split
   ·rw [pbits_zero]; omega
   ·omega
theorem S0_zero : S0 (0, 0) := by constructor <;> (show n8 0 ≤ _; rw [n8_zero]; omega)
theorem WtIn.zlo {n : Nat} {lo hi : List Pr} (h : WtIn n lo hi) (v : Nat) : WtIn n (zr lo v) hi where
 ll := (zr_len _ _).trans h.ll
 lh := h.lh
 pl := fun k => by rw [zr_get]; split; exact Lp.zero; exact h.pl k
 ph := h.ph
 l0 := by rw [zr_get]; split; exact S0_zero; exact h.l0
 h0 := h.h0
 sl := fun k => by rw [zr_get]; split; exact Sp.zero; exact h.sl k
 sh := h.sh
theorem WtIn.zhi {n : Nat} {lo hi : List Pr} (h : WtIn n lo hi) (v : Nat) : WtIn n lo (zr hi v) where
 ll := h.ll
 lh := (zr_len _ _).trans h.lh
 pl := h.pl
 ph := fun k => by rw [zr_get]; split; exact Lp.zero; exact h.ph k
 l0 := h.l0
 h0 := by rw [zr_get]; split; exact S0_zero; exact h.h0
 sl := h.sl
 sh := fun k => by rw [zr_get]; split; exact Sp.zero; exact h.sh k
structure WtFit (N : Nt) (n : Nat) (lo hi : List Pr) : Prop where
 wt : WtIn n lo hi
 chk : cchk N = 0
 few : sumB lo n + sumB hi n ≤ 16384
theorem WtFit.fit {N : Nt} {n : Nat} {lo hi : List Pr} (h : WtFit N n lo hi) : wfit N n lo hi = 0 := by
 unfold wfit;rw [if_pos h.chk, if_neg (by have := h.few; omega)]
theorem WtFit.zlo {N : Nt} {n : Nat} {lo hi : List Pr} (h : WtFit N n lo hi) (v : Nat) : WtFit N n (zr lo v) hi :=
 ⟨h.wt.zlo v, h.chk, by have := h.few; have := sumB_zr lo v n; omega⟩
theorem WtFit.zhi {N : Nt} {n : Nat} {lo hi : List Pr} (h : WtFit N n lo hi) (v : Nat) : WtFit N n lo (zr hi v) :=
 ⟨h.wt.zhi v, h.chk, by have := h.few; have := sumB_zr hi v n; omega⟩
def totN (N : Nt) (n : Nat) (lo hi : List Pr) : Nat := ((RP n lo hi).sum N).1
structure Ch where
 r : Nat
 lo : List Pr
 hi : List Pr
 a : Nat
def Ch.step (N : Nt) (n : Nat) (s : Ch) (v : Nat) : Ch :=
 if totN N n s.lo (zr s.hi v) ≤ s.r then ⟨s.r - totN N n s.lo (zr s.hi v), zr s.lo v, s.hi, s.a ||| 2 ^ (v - 1)⟩ else ⟨s.r, s.lo, zr s.hi v, s.a⟩
def Ch.run (N : Nt) (n : Nat) (s : Ch) : Nat → Ch
 | 0 => s
 | m + 1 => (Ch.run N n s m).step N n (m + 1)
theorem Ch.step_fit {N : Nt} {n : Nat} {s : Ch} (h : WtFit N n s.lo s.hi) (v : Nat) : WtFit N n (s.step N n v).lo (s.step N n v).hi := by
 unfold Ch.step;split
 ·exact h.zlo v
 ·exact h.zhi v
theorem Ch.run_fit {N : Nt} {n : Nat} {s : Ch} (h : WtFit N n s.lo s.hi) : ∀ m, WtFit N n (s.run N n m).lo (s.run N n m).hi
 | 0 => h
 | m + 1 => Ch.step_fit (Ch.run_fit h m) (m + 1)
theorem Ch.step_r (N : Nt) (n : Nat) (s : Ch) (v : Nat) : (s.step N n v).r ≤ s.r := by
 unfold Ch.step;split
 ·exact Nat.sub_le _ _
 ·exact zqn _
theorem Ch.run_r (N : Nt) (n : Nat) (s : Ch) : ∀ m, (s.run N n m).r ≤ s.r
 | 0 => zqn _
 | m + 1 => Nat.le_trans (Ch.step_r N n _ _) (Ch.run_r N n s m)
def choiceN (N : Nt) (n : Nat) (lo hi : List Pr) (r : Nat) : Nat := (Ch.run N n ⟨r, lo, hi, 0⟩ n).a
theorem sum_Sp {N : Nt} {n : Nat} {lo hi : List Pr} (hv : vld N = true) (hn : N.n = (n : Int)) (h : WtFit N n lo hi) : Sp ((RP n lo hi).sum N) := by
 obtain ⟨z1, z2, z3⟩ := wfit_zero hv h.fit;obtain ⟨hn0, hn1, hl0, hl1⟩ := vld_bounds hv;have hok := h.wt.ok z3
 have := p_wide hok hv z1 z2 hn N.l.length (zqn _) (N.l.length - 1) (by omega) (allTo N.n) (fun i hb => by
  have := own_sub hv N.l.length (N.l.length - 1) (by omega) (by omega) i hb
  rw [allTo_bit]; simp; omega) 128
 rw [List.take_length, List.take_of_length_le (vl_length _)] at this;exact this
end Cs
end
section
open Go Go.RowKit Cs
namespace Cs
def onesP (n : Nat) : List Pr := List.replicate (n + 1) (1, 1)
theorem onesP_get (n k : Nat) : (onesP n).getD k (0, 0) = if k < n + 1 then (1, 1) else (0, 0) := by
 unfold onesP;rw [List.getD_eq_getElem?_getD, List.getElem?_replicate]
 split <;> rfl
theorem n8_1 : n8 1 ≤ 1 := (n8_le _ _).2 (by decide)
theorem ones_in (n : Nat) : WtIn n (onesP n) (onesP n) := by
 have h1 : ∀ k, Lp ((onesP n).getD k (0, 0)) := fun k => by rw [onesP_get]; split; exact Lp.one; exact Lp.zero
 have h2 : ∀ k, Sp ((onesP n).getD k (0, 0)) := fun k => by
  rw [onesP_get];have := n8_1;split
  ·exact ⟨by show n8 1 ≤ _; omega, by show n8 1 ≤ _; omega⟩
  ·exact Sp.zero
 have h3 : S0 ((onesP n).getD 0 (0, 0)) := by
  rw [onesP_get, if_pos (by omega)];have := n8_1;exact ⟨by show n8 1 ≤ _; omega, by show n8 1 ≤ _; omega⟩
 exact ⟨by simp [onesP], by simp [onesP], h1, h1, h3, h3, h2, h2⟩
theorem ones_bits (n : Nat) : ∀ m, m ≤ n → sumB (onesP n) m = 2 * m
 | 0, _ => rfl
 | m + 1, h => by
   show sumB (onesP n) m + pbits ((onesP n).getD (m + 1) (0, 0)) = _;rw [ones_bits n m (by omega), onesP_get, if_pos (by omega)]
   have : pbits (1, 1) = 2 := by decide +kernel
   rw [this]; omega
theorem ones_plit (n : Nat) (l : Int) (h1 : 1 ≤ l.natAbs) (h2 : l.natAbs ≤ n) : plit n (onesP n) (onesP n) l = (1, 1) := by
 unfold plit;simp only [onesP_get]
 (repeat' split) <;> first | rfl | omega
end Cs
end
section
open Go Go.RowKit Cs
namespace Cs
def Wh (L : List Pr) : Prop := ∀ k, (L.getD k (0, 0)).2 ≤ 1
structure WhIn (lo hi : List Pr) : Prop where
 pl : ∀ k, Lp (lo.getD k (0, 0))
 ph : ∀ k, Lp (hi.getD k (0, 0))
 wl : Wh lo
 wh : Wh hi
theorem WhIn.zlo {lo hi : List Pr} (h : WhIn lo hi) (v : Nat) : WhIn (zr lo v) hi where
 pl := fun k => by rw [zr_get]; split; exact Lp.zero; exact h.pl k
 ph := h.ph
 wl := fun k => by rw [zr_get]; split; exact Nat.zero_le _; exact h.wl k
 wh := h.wh
theorem WhIn.zhi {lo hi : List Pr} (h : WhIn lo hi) (v : Nat) : WhIn lo (zr hi v) where
 pl := h.pl
 ph := fun k => by rw [zr_get]; split; exact Lp.zero; exact h.ph k
 wl := h.wl
 wh := fun k => by rw [zr_get]; split; exact Nat.zero_le _; exact h.wh k
theorem ones_whIn (n : Nat) : WhIn (onesP n) (onesP n) := by
 have h := ones_in n
 have h1 : Wh (onesP n) := fun k => by rw [onesP_get]; split <;> decide
 exact ⟨h.pl, h.ph, h1, h1⟩
def WN (n : Nat) (lo hi : List Pr) (l : Int) : Nat := (plit n lo hi l).1
theorem qp_wh {p : Pr} (h : p.2 ≤ 1) : qp p = (p.1 : Rat) := by
 have e : qd p.2 = 1 := by unfold qd; split <;> omega
 unfold qp;rw [← qq_qd, e];exact qq_one _
theorem WhIn.plit {lo hi : List Pr} (h : WhIn lo hi) (n : Nat) (l : Int) : Lp (plit n lo hi l) ∧ qp (plit n lo hi l) = ((WN n lo hi l : Nat) : Rat) := by
 have h2 : (Cs.plit n lo hi l).2 ≤ 1 := by
  unfold Cs.plit
  (repeat' split) <;> first | exact h.wl _ | exact h.wh _ | exact Nat.zero_le _
 refine ⟨?_, qp_wh h2⟩;unfold Cs.plit
 (repeat' split) <;> first | exact h.pl _ | exact h.ph _ | exact Lp.zero
theorem wh_rl {lo hi : List Pr} (h : WhIn lo hi) (n : Nat) : Rl (RP n lo hi) ((RN 0).wit (WN n lo hi)) (fun p m => Lp p ∧ qp p = ((m : Nat) : Rat)) where
 zero := ⟨Lp.zero, qp_zero.trans (by rfl)⟩
 one := ⟨Lp.one, qp_one.trans (by rfl)⟩
 add := fun a b c d h1 h2 => ⟨Lp.pq (Rat.add_nonneg (qp_nonneg _) (qp_nonneg _)), by
  show qp (padd a c) = ((b + d : Nat) : Rat)
  rw [qp_add, h1.2, h2.2, Rat.natCast_add]⟩
 mul := fun a b c d h1 h2 => ⟨Lp.pq (Rat.mul_nonneg (qp_nonneg _) (qp_nonneg _)), by
  show qp (pmul a c) = ((b * d : Nat) : Rat)
  rw [qp_mul, h1.2, h2.2, Rat.natCast_mul]⟩
 lit := fun l => h.plit n l
 both := fun v => ⟨Lp.pq (Rat.add_nonneg (qp_nonneg _) (qp_nonneg _)), by
  show qp (padd (Cs.plit n lo hi (-v)) (Cs.plit n lo hi v)) = ((WN n lo hi v + WN n lo hi (-v) : Nat) : Rat)
  rw [qp_add, (h.plit n v).2, (h.plit n (-v)).2, Rat.natCast_add, Rat.add_comm]⟩
theorem qn_Lp {p : Pr} (h : Lp p) : p.1 = qn (qp p) := h.1
theorem tot_wh {lo hi : List Pr} (h : WhIn lo hi) (N : Nt) (n : Nat) : totN N n lo hi = ((RN 0).wit (WN n lo hi)).sum N := by
 obtain ⟨h1, h2⟩ := (wh_rl h n).sum N;unfold totN;rw [qn_Lp h1, h2];exact qn_of_nat _
section
variable {N : Nt} (hv : vld N = true) (hd : dcmp N = true) {n : Nat} (hn : N.n = (n : Int))
include hv hd hn
end
section
variable {N : Nt} (hv : vld N = true) (hd : dcmp N = true) {n : Nat} (hn : N.n = (n : Int))
include hv hd hn
end
section
variable {N : Nt} (hv : vld N = true) (hd : dcmp N = true) {n : Nat} (hn : N.n = (n : Int)) {lo hi : List Pr} (h : WhIn lo hi)
include hv hd hn h
end
end Cs
end
