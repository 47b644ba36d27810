import Derived.Test.YtmhllppjcilllaaGreatDoorTp
import Derived.Test.YtmhllppjcilllaaGreatDoorVc
import Derived.Test.YtmhllppjcilllaaGreatDoorDv
set_option linter.unusedSimpArgs false
set_option linter.unusedVariables false
open Go Go.RowKit Cs
namespace Cs
open Go.Proofs.YtmhllppjcilllaaGreatDoor
def termB (n : Int) (t : List Int) : Bool := t.all (fun x => litOk x n) && !decide (∃ x ∈ t, -x ∈ t)
theorem litOk_range {l : Int} {n : Int} {k : Nat} (h : litOk l n = true) (hn : n = (k : Int)) (hk : k ≤ 128) : (1 ≤ l ∧ l ≤ (k : Int)) ∨ (l ≤ -1 ∧ -l ≤ (k : Int)) := by
 unfold litOk at h;simp at h;have h0 := h.1;have h1 := h.2;unfold litVar at h0 h1;by_cases c1 : 1 ≤ l ∧ l ≤ 128
 ·rw [if_pos c1] at h1; omega
 ·rw [if_neg c1] at h0 h1;by_cases c2 : l ≤ -1 ∧ -128 ≤ l
  ·rw [if_pos c2] at h1; omega
  ·rw [if_neg c2] at h0; exact absurd rfl h0
theorem termB_lits {n : Int} {k : Nat} {t : List Int} (h : termB n t = true) (hn : n = (k : Int)) (hk : k ≤ 128) : ∀ l ∈ t, (1 ≤ l ∧ l ≤ (k : Int)) ∨ (l ≤ -1 ∧ -l ≤ (k : Int)) := fun l hl => by
 unfold termB at h;rw [Bool.and_eq_true, List.all_eq_true] at h;exact litOk_range (h.1 l hl) hn hk
theorem zz_eq {n : Nat} {lo hi : List Pr} (hl : lo.length = n + 1) (hh : hi.length = n + 1) : ∀ (k : Nat) (t : List Int), t.length = k → (∀ l ∈ t, l ≠ 0) → zlo t lo = wLo n lo t ∧ zhi t hi = wHi n hi t
 | 0, t, e, _ => by
   obtain rfl : t = [] := List.eq_nil_of_length_eq_zero e;rw [wLo_nil hl, wHi_nil hh];exact ⟨rfl, rfl⟩
 | k + 1, t, e, h => by
   rcases List.eq_nil_or_concat t with rfl | ⟨S, l, rfl⟩
   ·simp at e
   ·rw [List.concat_eq_append] at e h ⊢;obtain ⟨i1, i2⟩ := zz_eq hl hh k S (by simpa using e) (fun x hx => h x (by simp [hx]));rw [zlo_snoc, zhi_snoc, i1, i2];have h0 := h l (by simp);rcases Int.lt_or_le 0 l with hp | hp
    ·rw [if_pos hp, if_pos hp, wLo_snoc hp, wHi_same hp, show l.toNat = l.natAbs by omega];exact ⟨rfl, rfl⟩
    ·have hm : l < 0 := by omega
     rw [if_neg (by omega), if_neg (by omega), wHi_snoc hm, wLo_same hm, show (-l).toNat = l.natAbs by omega];exact ⟨rfl, rfl⟩
theorem sum_sp {N : Nt} {n : Nat} {lo hi : List Pr} (ok : WtOk n lo hi) (hv : vld N = true) (hd : dcmp N = true) (hs : shortB N = true) (hn : N.n = (n : Int)) : Sp ((RP n lo hi).sum N) := by
 obtain ⟨hn0, hn1, hl0, hl1⟩ := vld_bounds hv
 have := p_wide ok hv hd hs hn N.l.length (zqn _) (N.l.length - 1) (by omega) (allTo N.n) (fun x hx => by
  have := own_sub hv N.l.length (N.l.length - 1) (by omega) (by omega) x hx;rw [allTo_bit]
  exact decide_eq_true (by omega)) 128
 rw [List.take_length, List.take_of_length_le (vl_length _)] at this;exact this
def shareR (N : Nt) (n : Nat) (lo hi : List Pr) (t : List Int) : Pr × Int :=
 if termB N.n t = true then (if wfit N n lo hi = 0 then (if ((RP n lo hi).sum N).1 = 0 then ((0, 0), 3) else (pq (qp ((RP n (wLo n lo t) (wHi n hi t)).sum N) / qp ((RP n lo hi).sum N)), 0)) else ((0, 0), wfit N n lo hi)) else ((0, 0), 1)
theorem RW_split {N : Nt} {n : Nat} (hv : vld N = true) (hd : dcmp N = true) (hn : N.n = (n : Int)) (W Wl Wh : Int → Rat) (v : Nat) (h1 : 1 ≤ v) (h2 : v ≤ n)
  (hl : ∀ l, l ≠ (v : Int) → Wl l = W l) (hl0 : Wl (v : Int) = 0) (hh : ∀ l, l ≠ -(v : Int) → Wh l = W l) (hh0 : Wh (-(v : Int)) = 0) : (RW W).sum N = (RW Wl).sum N + (RW Wh).sum N :=
 sum_parts CQ hv hd W Wl Wh n hn v h1 h2 hl hl0 hh hh0
theorem part_add {N : Nt} {n : Nat} {lo hi : List Pr} (hW : WtIn n lo hi) (hb : ¬ 16384 < sumB lo n + sumB hi n) (hv : vld N = true) (hd : dcmp N = true) (hn : N.n = (n : Int)) (v : Nat) (h1 : 1 ≤ v) (h2 : v ≤ n) :
  qp ((RP n lo hi).sum N) = qp ((RP n (wLo n lo [(v : Int)]) (wHi n hi [(v : Int)])).sum N) + qp ((RP n (wLo n lo [-(v : Int)]) (wHi n hi [-(v : Int)])).sum N) := by
 rw [RP_sum (hW.ok hb), RP_sum (hW.okT hb _), RP_sum (hW.okT hb _), Rat.add_comm]
 have hvn : v < n + 1 := by omega
 have ev : ((v : Nat) : Int).natAbs = v := by omega
 have ev2 : (-((v : Nat) : Int)).natAbs = v := by omega
 refine RW_split hv hd hn _ _ _ v h1 h2 (fun l hl => ?_) ?_ (fun l hl => ?_) ?_
 ·show qp (plit n _ _ l) = qp (plit n _ _ l)
  congr 1
  unfold plit;by_cases hr : 1 ≤ l.natAbs ∧ l.natAbs ≤ n
  ·have hln : l.natAbs < n + 1 := by omega
   rw [if_pos hr, if_pos hr];by_cases hneg : l < 0
   ·rw [if_pos hneg, if_pos hneg, wLo_get, if_pos hln, if_neg (by rw [List.mem_singleton]; omega)]
   ·rw [if_neg hneg, if_neg hneg, wHi_get, if_pos hln, if_neg (by rw [List.mem_singleton]; omega)]
  ·rw [if_neg hr, if_neg hr]
 ·show qp (plit n _ _ (v : Int)) = 0;unfold plit;rw [ev, if_pos ⟨h1, h2⟩, if_neg (by omega), wHi_get, if_pos hvn, if_pos (by rw [List.mem_singleton]), qp_zero]
 ·show qp (plit n _ _ l) = qp (plit n _ _ l)
  congr 1
  unfold plit;by_cases hr : 1 ≤ l.natAbs ∧ l.natAbs ≤ n
  ·have hln : l.natAbs < n + 1 := by omega
   rw [if_pos hr, if_pos hr];by_cases hneg : l < 0
   ·rw [if_pos hneg, if_pos hneg, wLo_get, if_pos hln, if_neg (by rw [List.mem_singleton]; omega)]
   ·rw [if_neg hneg, if_neg hneg, wHi_get, if_pos hln, if_neg (by rw [List.mem_singleton]; omega)]
  ·rw [if_neg hr, if_neg hr]
 ·show qp (plit n _ _ (-(v : Int))) = 0;unfold plit;rw [ev2, if_pos ⟨h1, h2⟩, if_pos (by omega), wLo_get, if_pos hvn, if_pos (by rw [List.mem_singleton]), qp_zero]
end Cs
