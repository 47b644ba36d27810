import Derived.Test.YtmhllppjcilllaaGreatDoorBy
import Derived.Test.YtmhllppjcilllaaGreatDoorYb
import Derived.Test.YtmhllppjcilllaaGreatDoorBL
import Derived.Test.YtmhllppjcilllaaGreatDoorTe
set_option linter.unusedSimpArgs false
set_option linter.unusedVariables false
open Go Go.RowKit Cs
namespace Cs
section
variable {N : Nt} {n : Nat} {lo hi : List Pr}
theorem whIn_T (h : WhIn lo hi) (n : Nat) (T : List Int) : WhIn (wLo n lo T) (wHi n hi T) where
 pl := wLo_all Lp.zero h.pl
 ph := wHi_all Lp.zero h.ph
 wl := fun k => wLo_all (P := fun p => p.2 ≤ 1) (by decide) h.wl k
 wh := fun k => wHi_all (P := fun p => p.2 ≤ 1) (by decide) h.wh k
theorem sum_wt (h : WhIn lo hi) (hv : vld N = true) (hn : N.n = (n : Int)) (nt : Int) (hw : ∀ l : Int, 1 ≤ l.natAbs → l.natAbs ≤ n → WN n lo hi l = wt nt l) :
  Lp ((RP n lo hi).sum N) ∧ qp ((RP n lo hi).sum N) = (((RN nt).sum N : Nat) : Rat) := by
 have h1 := (wh_rl h n).sum N
 have e : (RN nt).sum N = ((RN 0).wit (WN n lo hi)).sum N := sum_re (R := RN nt) (lit' := WN n lo hi) (both' := fun v => WN n lo hi v + WN n lo hi (-v)) (n := n) (fun v h1 h2 => by
  show wt nt v + wt nt (-v) = _
  rw [hw v (by omega) (by omega), hw (-v) (by omega) (by omega)]) (fun l h1 h2 => (hw l h1 h2).symm) hv hn
 rw [e];exact h1
theorem ones_wt0 (l : Int) (h1 : 1 ≤ l.natAbs) (h2 : l.natAbs ≤ n) : WN n (onesP n) (onesP n) l = wt 0 l := by
 unfold WN wt;rw [ones_plit n l h1 h2, if_neg (by omega)]
theorem ones_wt (x l : Int) (h1 : 1 ≤ l.natAbs) (h2 : l.natAbs ≤ n) : WN n (wLo n (onesP n) [x]) (wHi n (onesP n) [x]) l = wt (-x) l := by
 unfold WN wt plit;rw [if_pos ⟨h1, h2⟩]
 have hb : l.natAbs < n + 1 := by omega
 by_cases hl : l < 0
 ·rw [if_pos hl, wLo_get, if_pos hb, onesP_get, if_pos hb];by_cases hx : l = -x
  ·rw [if_pos (List.mem_singleton.2 (by omega)), if_pos hx]
  ·rw [if_neg (fun h => hx (by have := List.mem_singleton.1 h; omega)), if_neg hx]
 ·rw [if_neg hl, wHi_get, if_pos hb, onesP_get, if_pos hb];by_cases hx : l = -x
  ·rw [if_pos (List.mem_singleton.2 (by omega)), if_pos hx]
  ·rw [if_neg (fun h => hx (by have := List.mem_singleton.1 h; omega)), if_neg hx]
theorem ones_tot (hv : vld N = true) (hn : N.n = (n : Int)) : Lp ((RP n (onesP n) (onesP n)).sum N) ∧ qp ((RP n (onesP n) (onesP n)).sum N) = (((RN 0).sum N : Nat) : Rat) := sum_wt (ones_whIn n) hv hn 0 ones_wt0
theorem ones_lit (hv : vld N = true) (hn : N.n = (n : Int)) (x : Int) : Lp ((RP n (wLo n (onesP n) [x]) (wHi n (onesP n) [x])).sum N) ∧ qp ((RP n (wLo n (onesP n) [x]) (wHi n (onesP n) [x])).sum N) = (((RN (-x)).sum N : Nat) : Rat) := sum_wt (whIn_T (ones_whIn n) n [x]) hv hn (-x) (ones_wt x)
theorem ptext_lp {p : Pr} (h : Lp p) : Go.Proofs.YtmhllppjcilllaaGreatDoor.ptext p.1 p.2 = qtext (qp p) := by
 obtain ⟨h1, h2⟩ := h;unfold qp;rcases h2 with h2 | ⟨e1, e2⟩
 ·rw [← ptext_q, ← h1, ← h2]
 ·rw [e1, e2];decide +kernel
theorem lp_text {p : Pr} {m : Nat} (h : Lp p) (hq : qp p = (m : Rat)) : Go.Proofs.YtmhllppjcilllaaGreatDoor.ptext p.1 p.2 = dec m := by rw [ptext_lp h, hq, Go.Proofs.YtmhllppjcilllaaGreatDoor.qtext_nat]
theorem pq_text (m : Nat) : Go.Proofs.YtmhllppjcilllaaGreatDoor.ptext (pq (m : Rat)).1 (pq (m : Rat)).2 = dec m :=
 lp_text (Lp.pq (by exact_mod_cast Nat.zero_le m)) (qp_pq (by exact_mod_cast Nat.zero_le m))
theorem ones_sums (hn : n ≤ 20) : ¬ 16384 < sumB (onesP n) n + sumB (onesP n) n := by rw [ones_bits n n (zqn _)]; omega
theorem ones_wfit (hn : n ≤ 20) : wfit N n (onesP n) (onesP n) = cchk N := by
 unfold wfit;rw [if_neg (ones_sums hn)];split
 ·rename_i h; rw [h]
 ·rfl
theorem low_text (hv : vld N = true) (hn : N.n = (n : Int)) (k : Nat) (hk : k < n + 1) : Go.Proofs.YtmhllppjcilllaaGreatDoor.ptext ((lowP N n (onesP n) (onesP n) n).getD k (0, 0)).1 ((lowP N n (onesP n) (onesP n) n).getD k (0, 0)).2 = dec ((lowL N n).getD k 0) := by
 unfold lowP lowL;rw [rng_get, if_pos hk];rcases k with _ | k
 ·rw [if_pos rfl];show Go.Proofs.YtmhllppjcilllaaGreatDoor.ptext 0 0 = dec 0;exact lp_text (p := (0, 0)) Lp.zero (by decide +kernel)
 ·rw [if_neg (by omega), List.getD_cons_succ, rng_get, if_pos (by omega), Int.natCast_succ];have h := ones_lit hv hn (-((k : Int) + 1));rw [Int.neg_neg] at h;exact lp_text h.1 h.2
theorem high_get (hv : vld N = true) (hd : dcmp N = true) (hn : N.n = (n : Int)) (h20 : n ≤ 20) (k : Nat) (hk : k < n + 1) : (highP N n (onesP n) (onesP n) n).getD k (0, 0) = if k = 0 then (0, 0) else pq (((highL N n).getD k 0 : Nat) : Rat) := by
 unfold highP highL;rw [rng_get, if_pos hk];rcases k with _ | k
 ·rw [if_pos rfl, if_pos rfl]
 ·rw [if_neg (by omega), if_neg (by omega), List.getD_cons_succ, rng_get, if_pos (by omega)];have h := part_add (ones_in n) (ones_sums h20) hv hd hn (k + 1) (by omega) (by omega);rw [Int.natCast_succ] at h ⊢;have h2 := ones_lit hv hn ((k : Int) + 1);rw [h, ← h2.2]
  congr 1
  grind
theorem high_text (hv : vld N = true) (hd : dcmp N = true) (hn : N.n = (n : Int)) (h20 : n ≤ 20) (k : Nat) (hk : k < n + 1) : Go.Proofs.YtmhllppjcilllaaGreatDoor.ptext ((highP N n (onesP n) (onesP n) n).getD k (0, 0)).1 ((highP N n (onesP n) (onesP n) n).getD k (0, 0)).2 = dec ((highL N n).getD k 0) := by
 rw [high_get hv hd hn h20 k hk];rcases k with _ | k
 ·rw [if_pos rfl];show Go.Proofs.YtmhllppjcilllaaGreatDoor.ptext 0 0 = dec 0;exact lp_text (p := (0, 0)) Lp.zero (by decide +kernel)
 ·rw [if_neg (by omega)];exact pq_text _
theorem low_sp (hv : vld N = true) (hd : dcmp N = true) (hs : shortB N = true) (hn : N.n = (n : Int)) (h20 : n ≤ 20) (k : Nat) : Sp ((lowP N n (onesP n) (onesP n) n).getD k (0, 0)) := by
 unfold lowP;rw [rng_get];split
 ·split
  ·exact S0_zero.sp
  ·exact sum_sp (WtIn.okT (ones_in n) (ones_sums h20) _) hv hd hs hn
 ·exact S0_zero.sp
theorem high_sp (hv : vld N = true) (hd : dcmp N = true) (hs : shortB N = true) (hn : N.n = (n : Int)) (h20 : n ≤ 20) (k : Nat) (hk : k < n + 1) : Sp ((highP N n (onesP n) (onesP n) n).getD k (0, 0)) := by
 rw [high_get hv hd hn h20 k hk];split
 ·exact S0_zero.sp
 ·rename_i h0;obtain ⟨j, rfl⟩ : ∃ j, k = j + 1 := ⟨k - 1, by omega⟩
  have e : (highL N n).getD (j + 1) 0 = (RN (-((j : Int) + 1))).sum N := by
   unfold highL;rw [List.getD_cons_succ, rng_get, if_pos (by omega)]
  rw [e];obtain ⟨h1, h2⟩ := ones_lit hv hn ((j : Int) + 1);have h3 := sum_sp (WtIn.okT (ones_in n) (ones_sums h20) [(j : Int) + 1]) hv hd hs hn;have h4 := h1.1;rw [show qq _ _ = _ from h2, qn_of_nat] at h4
  generalize (RN (-((j : Int) + 1))).sum N = m at *
  have h5 : n8 m ≤ 100000 := by rw [← h4]; exact h3.1
  exact ⟨h5, Nat.le_trans n8_1 (by decide)⟩
end
end Cs
