import Derived.Test.YtmhllppjcilllaaGreatDoorWd
set_option linter.unusedSimpArgs false
set_option linter.unusedVariables false
open Go Go.RowKit Cs
namespace Cs
theorem rn_n8 {N : Nt} {n : Nat} (hv : vld N = true) (hd : dcmp N = true) (hs : shortB N = true) (hn : N.n = (n : Int)) (h20 : n ≤ 20) (x : Int) : n8 ((RN (-x)).sum N) ≤ 100000 := by
 obtain ⟨h1, h2⟩ := ones_lit hv hn x;have h3 := sum_sp (WtIn.okT (ones_in n) (ones_sums h20) [x]) hv hd hs hn;have h4 := h1.1;rw [show qq _ _ = _ from h2, qn_of_nat] at h4;rw [← h4];exact h3.1
theorem low_n8 {N : Nt} {n : Nat} (hv : vld N = true) (hd : dcmp N = true) (hs : shortB N = true) (hn : N.n = (n : Int)) (h20 : n ≤ 20) (k : Nat) (hk : k < n + 1) : n8 ((lowL N n).getD k 0) ≤ 1000000 := by
 unfold lowL;rcases k with _ | k
 ·exact Nat.le_trans S0_zero.sp.1 (by decide)
 ·rw [List.getD_cons_succ, rng_get, if_pos (by omega)];have := rn_n8 hv hd hs hn h20 (-((k : Int) + 1));rw [Int.neg_neg] at this;exact Nat.le_trans this (by decide)
theorem high_n8 {N : Nt} {n : Nat} (hv : vld N = true) (hd : dcmp N = true) (hs : shortB N = true) (hn : N.n = (n : Int)) (h20 : n ≤ 20) (k : Nat) (hk : k < n + 1) : n8 ((highL N n).getD k 0) ≤ 1000000 := by
 unfold highL;rcases k with _ | k
 ·exact Nat.le_trans S0_zero.sp.1 (by decide)
 ·rw [List.getD_cons_succ, rng_get, if_pos (by omega)];exact Nat.le_trans (rn_n8 hv hd hs hn h20 ((k : Int) + 1)) (by decide)
end Cs
namespace Go.Proofs.YtmhllppjcilllaaGreatDoor
theorem counts_any (w : World) (hT : Tab w) (N : Nt) (A : Option Addr) (c : Nat) (hlen : N.l.length ≤ 140737488355328) (hN : NtAt w w.heap.size A N.l) :
  Calls Tryz.prog 11 #[ntV N A c] w fun e w' => e = .returned (.bool true) ∧ Below w.heap.size w w' := by
 by_cases hl : lightB N 100 = true
 case neg => exact counts_no w hT N A c hlen hN (Or.inl (by simpa using hl))
 by_cases h20 : 20 < N.n
 ·exact counts_no w hT N A c hlen hN (Or.inr h20)
 have hin : ∀ k (hk : k < N.l.length), N.l[k].ins.length ≤ 1000000 := fun k hk => by
  unfold lightB slim at hl;rw [Bool.and_eq_true, List.all_eq_true] at hl;have := hl.1 N.l[k] (List.getElem_mem hk);simp only [decide_eq_true_eq] at this;omega
 by_cases hE : cchk N = 0
 ·obtain ⟨hv, hd, hs⟩ := cchk_zero3 hE;obtain ⟨hn0, hn1, hl0, hl1⟩ := vld_bounds hv;obtain ⟨n, hn⟩ : ∃ n : Nat, N.n = n := ⟨N.n.toNat, by omega⟩
  have h20' : n ≤ 20 := by omega
  have hE2 : wfit N n (onesP n) (onesP n) = 0 := (ones_wfit h20').trans hE;have hok := (ones_in n).ok (ones_sums h20');have hsp := sum_sp hok hv hd hs hn;have htt := ones_tot hv hn
  have hc8 : n8 ((RN 0).sum N) ≤ 100000 := by
   have h4 := htt.1.1;rw [show qq _ _ = _ from htt.2, qn_of_nat] at h4;rw [← h4];exact hsp.1
  refine counts_ok w hT N A c hlen hN hl h20 (n + 1) ((RP n (onesP n) (onesP n)).sum N).1 ((RP n (onesP n) (onesP n)).sum N).2 ((RN 0).sum N) (by omega) (lowP N n (onesP n) (onesP n) n) (highP N n (onesP n) (onesP n) n) (onesP n) (lowL N n) (highL N n) ?_ ?_ ?_ ?_ ?_ ?_ ?_ ?_ ?_ ?_ ?_ ?_
  ·intro W;rw [hn];refine (ones_any W n (by omega)).mono ?_;rintro e w' ⟨g1, g2, rfl, _, _, _, x1, x2, hb⟩;exact ⟨g1, g2, rfl, x1, x2, hb⟩
  ·intro W b3 g1 g2 h;exact total_fit W N A c (n + 1) (n + 1) n (onesP n) (onesP n) _ _ (h.nb.nt.more h.nb.bl.size) hv hn (hT.below h.nb.bl) hin (ones_in n) (Rd.of_row h.x1 (zqn _) h.x1.lt) (Rd.of_row h.x2 (zqn _) h.x2.lt) (zqn _) (zqn _) _ 0 hE2.symm (by rw [if_pos rfl])
  ·intro W b3 g1 g2 h;refine (bylit_fit W N A c (n + 1) (n + 1) n (onesP n) (onesP n) _ _ (h.nb.nt.more h.nb.bl.size) hv hn (hT.below h.nb.bl) hin (ones_in n) (Rd.of_row h.x1 (zqn _) h.x1.lt) (Rd.of_row h.x2 (zqn _) h.x2.lt) (zqn _) (zqn _) hE2).mono ?_;rintro e w' ⟨gl, gh, rfl, _, _, x1, x2, hb⟩;exact ⟨gl, gh, rfl, x1, x2, hb⟩
  ·intro W h;have := count_any W N A c hlen (h.nt.more h.bl.size) (hT.below h.bl);rwa [hE, show cntN N = (RN 0).sum N by unfold cntN; rw [if_pos hE]] at this
  ·intro W h;refine (byLit_any W N A c n hn (h.nt.more h.bl.size) (hT.below h.bl) hE).mono ?_;rintro e w' ⟨gl, gh, rfl, _, _, x1, x2, hb⟩;exact ⟨gl, gh, rfl, x1, x2, hb⟩
  ·intro W h;have := nodeCheck_any W N A c hlen (h.nt.more h.bl.size);rwa [show chk N = 0 by unfold chk; rw [hv]; rfl] at this
  ·intro W;have := qtext_any W _ _ hsp.1 hsp.2;rwa [lp_text htt.1 htt.2] at this
  ·exact fun W => text_any W _ (Nat.le_trans hc8 (by decide))
  ·intro k hk W;have := qtext_any W _ _ (low_sp hv hd hs hn h20' k).1 (low_sp hv hd hs hn h20' k).2;rwa [low_text hv hn k hk] at this
  ·intro k hk W;have := qtext_any W _ _ (high_sp hv hd hs hn h20' k hk).1 (high_sp hv hd hs hn h20' k hk).2;rwa [high_text hv hd hn h20' k hk] at this
  ·exact fun k hk W => text_any W _ (low_n8 hv hd hs hn h20' k hk)
  ·exact fun k hk W => text_any W _ (high_n8 hv hd hs hn h20' k hk)
 ·refine counts_err w hT N A c hlen hN hl h20 hE fun W hq => ?_;by_cases hv : vld N = true
  ·obtain ⟨hn0, hn1, hl0, hl1⟩ := vld_bounds hv;obtain ⟨n, hn⟩ : ∃ n : Nat, N.n = n := ⟨N.n.toNat, by omega⟩
   have h20' : n ≤ 20 := by omega
   rw [hn];refine (ones_any W n (by omega)).mono ?_;rintro e w' ⟨g1, g2, rfl, _, _, _, x1, x2, hb⟩;refine ⟨_, _, _, _, _, _, 0, rfl, fun V hV => ?_, hb⟩;have h' := hq.below hb;have h'' := h'.below hV;have y1 := rowBelow x1 hV;have y2 := rowBelow x2 hV;exact wcheck_fit V N A c (n + 1) (n + 1) n (onesP n) (onesP n) _ _ (h''.nt.more h''.bl.size) hv hn (hT.below h''.bl) (Rd.of_row y1 (zqn _) y1.lt) (Rd.of_row y2 (zqn _) y2.lt) (ones_in n).sl (ones_in n).sh (zqn _) (zqn _) _ (ones_wfit h20').symm
  ·have hv' : vld N = false := by simpa using hv
   have hc1 : cchk N = 1 := by unfold cchk; rw [hv']; rfl
   rw [hc1];by_cases hn0 : 0 ≤ N.n
   ·obtain ⟨n, hn⟩ : ∃ n : Nat, N.n = n := ⟨N.n.toNat, by omega⟩;rw [hn];refine (ones_any W n (by omega)).mono ?_;rintro e w' ⟨g1, g2, rfl, _, _, _, x1, x2, hb⟩;refine ⟨_, _, _, _, _, _, 0, rfl, fun V hV => ?_, hb⟩;have h'' := (hq.below hb).below hV;have := wcheck_bad V N A c (n + 1) (n + 1) (onesP n) (onesP n) (some ⟨g1, 0, none⟩) (some ⟨g2, 0, none⟩) hlen (h''.nt.more h''.bl.size) (Or.inl hv');rwa [show (onesP n).length = n + 1 by simp [onesP]] at this
   ·refine (ones_no W N.n (Or.inl (by omega))).mono ?_;rintro e w' ⟨rfl, hb⟩;refine ⟨none, none, 0, 0, 0, 0, 1, rfl, fun V hV => ?_, hb⟩;have h'' := (hq.below hb).below hV;exact wcheck_bad V N A c 0 0 [] [] none none hlen (h''.nt.more h''.bl.size) (Or.inl hv')
end Go.Proofs.YtmhllppjcilllaaGreatDoor
