import Derived.Test.YtmhllppjcilllaaGreatDoorRX
import Derived.BigGuardPart
import Derived.Test.YtmhllppjcilllaaGreatDoorGd
set_option linter.unusedSimpArgs false
set_option linter.unusedVariables false
section
open Go Go.RowKit Cs
end
section
open Go Go.RowKit Cs
namespace Cs
open Go.Proofs.YtmhllppjcilllaaGreatDoor
theorem askB_in {N : Nt} {lt : Nat} (h : askB N lt = true) : ∀ k (hk : k < N.l.length), N.l[k].ins.length ≤ 1000000 := fun k hk => by
 unfold askB lightB slim at h;rw [Bool.and_eq_true, Bool.and_eq_true, Bool.and_eq_true, List.all_eq_true] at h;have := h.1.1.1 N.l[k] (List.getElem_mem hk);simp only [decide_eq_true_eq] at this;omega
theorem askB_8 {N : Nt} {lt : Nat} (h : askB N lt = true) (hv : vld N = true) : N.n ≤ 8 := by
 unfold askB at h;rw [Bool.and_eq_true, hv] at h
 simpa using h.2
end Cs
namespace Go.Proofs.YtmhllppjcilllaaGreatDoor
theorem aw_hyp (w : World) (N : Nt) (A : Option Addr) (c : Nat) (Aw : Option Addr) (lw cw : Nat) (At : Option Addr) (lt ct : Nat) (F : Nat → Nat) (hlw : lw ≤ 140737488355328) (hw : Rd w w.heap.size Aw (lw * 4) (fun i => .int .u8 (F i : Nat))) (hF : ∀ i, F i < 256) (n : Nat) (hn : N.n = (n : Int)) (h8 : n ≤ 128) :
  ∀ W, Below w.heap.size w W → Calls Tryz.prog 17 #[askV N A c Aw lw cw At lt ct] W fun e w' => ∃ v g1 c1 g2 c2 F1 F2, e = .returned v ∧ WtV W.heap.size (n + 1) (awL lw F (n + 1)) (awH lw F (n + 1)) v g1 c1 g2 c2 F1 F2 w' ∧ Below W.heap.size W w' := fun W h => by
 refine (askW_any W N A c Aw lw cw At lt ct F hlw ((hw.below h).more h.size) hF (n + 1) (by omega)).mono ?_;rintro e w' ⟨s1, s2, rfl, hq⟩;obtain ⟨g1, c1, g2, c2, F1, F2, hv⟩ := hq.wt (Nat.succ_pos _);exact ⟨_, g1, c1, g2, c2, F1, F2, rfl, hv, hq.bl⟩
end Go.Proofs.YtmhllppjcilllaaGreatDoor
end
section
open Go Go.RowKit Cs
namespace Cs
open Go.Proofs.YtmhllppjcilllaaGreatDoor
theorem qd_le {d m : Nat} (h : d ≤ m) (hm : 1 ≤ m) : qd d ≤ m := by unfold qd; split <;> omega
theorem add_sp {p q : Pr} (hp : SmP p) (hq : SmP q) : Sp (pq (qp p + qp q)) := by
 have h := qq_parts (p.1 * qd q.2 + q.1 * qd p.2) (qd p.2 * qd q.2) 20000 (by
  have a1 := Nat.mul_le_mul hp.2.1 (qd_le hq.2.2 (by decide));have a2 := Nat.mul_le_mul hq.2.1 (qd_le hp.2.2 (by decide))
  omega) (by
  have a1 := Nat.mul_le_mul (qd_le hp.2.2 (by decide)) (qd_le hq.2.2 (by decide))
  omega) (by decide)
 rw [show qp p + qp q = qq (p.1 * qd q.2 + q.1 * qd p.2) (qd p.2 * qd q.2) from (qq_add _ _ _ _).symm];exact ⟨Nat.le_trans (n8_64 (by omega)) (by decide), Nat.le_trans (n8_64 (by omega)) (by decide)⟩
theorem mul_smp {p q : Pr} (h1 : p.1 ≤ 6) (h2 : p.2 ≤ 6) (h3 : q.1 ≤ 9) (h4 : q.2 ≤ 9) : SmP (pq (qp p * qp q)) := by
 rw [show qp p * qp q = qq (p.1 * q.1) (qd p.2 * qd q.2) from (qq_mul _ _ _ _).symm];refine SmP.of ?_ ?_
 ·have := Nat.mul_le_mul h1 h3; omega
 ·have := Nat.mul_le_mul (qd_le h2 (by decide)) (qd_le h4 (by decide)); omega
theorem aw_six (lw : Nat) (F : Nat → Nat) (n k : Nat) : ((awL lw F n).getD k (0, 0)).1 ≤ 6 ∧ ((awL lw F n).getD k (0, 0)).2 ≤ 6 ∧ ((awH lw F n).getD k (0, 0)).1 ≤ 6 ∧ ((awH lw F n).getD k (0, 0)).2 ≤ 6 := by
 unfold awL awH;rw [map_getD, map_getD];split
 ·exact ⟨(awl_parts lw F k).1, (awl_parts lw F k).2, (awh_parts lw F k).1, (awh_parts lw F k).2⟩
 ·exact ⟨by decide, by decide, by decide, by decide⟩
end Cs
namespace Go.Proofs.YtmhllppjcilllaaGreatDoor
theorem factors_any (w : World) (hT : Tab w) (N : Nt) (A : Option Addr) (c : Nat) (Aw : Option Addr) (lw cw : Nat) (At : Option Addr) (lt ct : Nat) (F : Nat → Nat) (hlen : N.l.length ≤ 140737488355328) (hN : NtAt w w.heap.size A N.l)
  (hlw : lw ≤ 140737488355328) (hw : Rd w w.heap.size Aw (lw * 4) (fun i => .int .u8 (F i : Nat))) (hF : ∀ i, F i < 256) (pk sg mo : Nat) (hpk : pk < 256) (hsg : sg < 256) (hmo : mo < 256) :
  Calls Tryz.prog 7 #[askV N A c Aw lw cw At lt ct, .int .u8 (pk : Int), .int .u8 (sg : Int), .int .u8 (mo : Int)] w fun e w' => e = .returned (.bool true) ∧ Below w.heap.size w w' := by
 by_cases hl : askB N lt = true
 case neg => exact factors_no w hT N A c Aw lw cw At lt ct hlen hN pk sg mo (Or.inl (by simpa using hl))
 by_cases hd0 : (vld N && dcmp N) = true
 case neg => exact factors_no w hT N A c Aw lw cw At lt ct hlen hN pk sg mo (Or.inr (by simpa using hd0))
 have hvd := hd0;rw [Bool.and_eq_true] at hvd;obtain ⟨hv, hd⟩ := hvd;obtain ⟨hn0, hn1, hl0, hl1⟩ := vld_bounds hv;have h8 := askB_8 hl hv;have hin := askB_in hl;obtain ⟨n, hn⟩ : ∃ n : Nat, N.n = n := ⟨N.n.toNat, by omega⟩
 have hn8 : n ≤ 8 := by omega
 have haw := aw_hyp w N A c Aw lw cw At lt ct F hlw hw hF n hn (by omega);have hsm := fun k => aw_sm lw F (n + 1) k;have hsix := fun k => aw_six lw F (n + 1) k;have hLl := awL_len lw F (n + 1);have hHl := awH_len lw F (n + 1);obtain ⟨L, hL⟩ : ∃ L, awL lw F (n + 1) = L := ⟨_, rfl⟩;obtain ⟨H, hH⟩ : ∃ H, awH lw F (n + 1) = H := ⟨_, rfl⟩;rw [hL, hH] at haw;rw [hL] at hLl;rw [hH] at hHl;simp only [hL, hH] at hsm hsix;have hW := wt_in hLl hHl (fun k => (hsm k).1) (fun k => (hsm k).2);have hb := wt_bits (n := n) (by omega) (fun k => (hsm k).1) (fun k => (hsm k).2);have hx9 : sg % 9 < 9 := Nat.mod_lt _ (by decide);have hy9 : mo % 9 < 9 := Nat.mod_lt _ (by decide);have sa1 : SmP (pq (qq (sg % 9) 2)) := SmP.of (by omega) (by decide);have sa2 : SmP (pq (qq (mo % 9) 3)) := SmP.of (by omega) (by decide);have sY : (pq (qq (sg % 9) (mo % 9 + 1))).1 ≤ 9 ∧ (pq (qq (sg % 9) (mo % 9 + 1))).2 ≤ 9 := qq_parts _ _ 9 (by omega) (by omega) (by decide);have sYs : SmP (pq (qq (sg % 9) (mo % 9 + 1))) := SmP.of (by omega) (by omega);obtain ⟨a1, ha1⟩ : ∃ a, pq (qq (sg % 9) 2) = a := ⟨_, rfl⟩;obtain ⟨a2, ha2⟩ : ∃ a, pq (qq (mo % 9) 3) = a := ⟨_, rfl⟩;obtain ⟨Y, hY⟩ : ∃ a, pq (qq (sg % 9) (mo % 9 + 1)) = a := ⟨_, rfl⟩;rw [ha1] at sa1;rw [ha2] at sa2;rw [hY] at sY sYs;have hv2 : vld ⟨N.n + 1, N.l⟩ = true := vld_more hv (by omega)
 have hn2 : (⟨N.n + 1, N.l⟩ : Nt).n = ((n + 1 : Nat) : Int) := by show N.n + 1 = _; omega
 have hW2 : WtIn (n + 1) (L ++ [a1]) (H ++ [a2]) := wt_in (by simp [hLl]) (by simp [hHl]) (SmP.app (fun k => (hsm k).1) sa1) (SmP.app (fun k => (hsm k).2) sa2);have hb2 := wt_bits (n := n + 1) (by omega) (SmP.app (fun k => (hsm k).1) sa1) (SmP.app (fun k => (hsm k).2) sa2);have hc2 : cchk ⟨N.n + 1, N.l⟩ = cchk N := cchk_more hv (by omega);have hw1 : wfit N n L H = cchk N := wfit_bits hb;have hw2 : wfit ⟨N.n + 1, N.l⟩ (n + 1) (L ++ [a1]) (H ++ [a2]) = cchk N := (wfit_bits hb2).trans hc2;have hEE : cchk N = 0 ∨ cchk N = 2 := cchk_dcmp hd hv
 obtain ⟨T, hTd⟩ : ∃ T : Pr, T = if cchk N = 0 then (RP n L H).sum N else (0, 0) := ⟨_, rfl⟩
 obtain ⟨T2, hT2⟩ : ∃ T : Pr, T = if cchk N = 0 then (RP (n + 1) (L ++ [a1]) (H ++ [a2])).sum ⟨N.n + 1, N.l⟩ else (0, 0) := ⟨_, rfl⟩
 have hTT : Lp T ∧ Sp T ∧ Lp T2 ∧ Sp T2 ∧ qp T2 = qp T * (qp a1 + qp a2) := by
  rcases hEE with h | h
  ·rw [if_pos h] at hTd hT2;obtain ⟨_, hs⟩ := cchk_zero hv h;have ok := hW.ok hb;have ok2 := hW2.ok hb2;subst hTd hT2;refine ⟨RP_Lp ok N, sum_sp ok hv hd hs hn, RP_Lp ok2 _, sum_sp ok2 hv2 hd hs hn2, ?_⟩;have e := wide_sum (n := n) (l := N.l) (a := a1) (b := a2) (by rw [← hn]; exact hv) (by rw [← hn]; exact hd) (by omega) ok ok2;rw [Int.natCast_succ, ← hn] at e;exact e
  ·rw [if_neg (by omega)] at hTd hT2;subst hTd hT2;refine ⟨Lp.zero, Sp.zero, Lp.zero, Sp.zero, ?_⟩;rw [qp_zero, Rat.zero_mul]
 obtain ⟨tl, ts, t2l, t2s, hq⟩ := hTT;have hSs := add_sp sa1 sa2;have eS : qp (pq (qp a1 + qp a2)) = qp a1 + qp a2 := qp_pq (Rat.add_nonneg (qp_nonneg _) (qp_nonneg _));refine factors_main w hT N A c Aw lw cw At lt ct hlen hN pk sg mo (n + 1) L H (by omega) haw hl hd0 n hn rfl hpk hsg hmo hn8 hLl hHl (cchk N) hEE T T2 a1 a2 (pq (qp a1 + qp a2)) (pq (qp T * (qp a1 + qp a2))) Y ?_ ?_ ?_ ?_ ?_ ?_ ?_ ?_ ?_
 ·exact fun W g1 c1 g2 c2 hnt htb r1 r2 m1 m2 => total_fit W N A c c1 c2 n L H _ _ hnt hv hn htb hin hW r1 r2 m1 m2 T (cchk N) hw1.symm hTd
 ·exact fun W a3 c1 a4 c2 hnt htb r1 r2 m1 m2 => total_fit W ⟨N.n + 1, N.l⟩ A c c1 c2 (n + 1) (L ++ [a1]) (H ++ [a2]) _ _ hnt hv2 hn2 htb hin hW2 r1 r2 m1 m2 T2 (cchk N) hw2.symm hT2
 ·intro W;rw [← ha1];exact qlof_any W (sg % 9) 2 (by omega) (by decide) (by decide)
 ·intro W;rw [← ha2];exact qlof_any W (mo % 9) 3 (by omega) (by decide) (by decide)
 ·intro W;rw [← hY];exact qlof_any W (sg % 9) (mo % 9 + 1) (by omega) (by omega) (by omega)
 ·exact fun W => qadd_any W _ _ _ _ sa1.s0.sp.1 sa1.s0.sp.2 sa2.s0.sp.1 sa2.s0.sp.2
 ·intro W;have := qmul_any W T.1 T.2 _ _ ts.1 ts.2 hSs.1 hSs.2;rw [show qq (pq (qp a1 + qp a2)).1 (pq (qp a1 + qp a2)).2 = qp a1 + qp a2 from eS] at this;exact this
 ·intro W;rw [← hq];exact same_any W _ _ ⟨t2l, t2s⟩ ⟨Lp.pq (qp_nonneg _), t2s.canon t2l⟩ (qp_pq (qp_nonneg _)).symm
 ·intro v v1 v2 hE;obtain ⟨_, hs⟩ := cchk_zero hv hE;have ok := hW.ok hb;rw [if_pos hE] at hTd;have s1 : ∀ k, SmP ((L.set v (pq (qp (L.getD v (0, 0)) * qp Y))).getD k (0, 0)) := SmP.set (by omega) (fun k => (hsm k).1) (mul_smp (hsix v).1 (hsix v).2.1 sY.1 sY.2);have s2 : ∀ k, SmP ((H.set v (pq (qp (H.getD v (0, 0)) * qp Y))).getD k (0, 0)) := SmP.set (by omega) (fun k => (hsm k).2) (mul_smp (hsix v).2.2.1 (hsix v).2.2.2 sY.1 sY.2);have hW3 := wt_in (n := n) (by simp [hLl]) (by simp [hHl]) s1 s2;have hb3 := wt_bits (n := n) (by omega) s1 s2;have ok3 := hW3.ok hb3;have hE3 : wfit N n (L.set v (pq (qp (L.getD v (0, 0)) * qp Y))) (H.set v (pq (qp (H.getD v (0, 0)) * qp Y))) = 0 := (wfit_bits hb3).trans hE;have hsc := scale_sum (y := qp Y) (qp_nonneg _) hv hd hn v1 v2 ok ok3;rw [← hTd] at hsc;refine ⟨pq (qp (L.getD v (0, 0)) * qp Y), pq (qp (H.getD v (0, 0)) * qp Y), (RP n (L.set v (pq (qp (L.getD v (0, 0)) * qp Y))) (H.set v (pq (qp (H.getD v (0, 0)) * qp Y)))).sum N, pq (qp T * qp Y), ?_, ?_, ?_, ?_, ?_⟩
  ·exact fun W => qmul_any W _ _ _ _ (hsm v).1.s0.sp.1 (hsm v).1.s0.sp.2 sYs.s0.sp.1 sYs.s0.sp.2
  ·exact fun W => qmul_any W _ _ _ _ (hsm v).2.s0.sp.1 (hsm v).2.s0.sp.2 sYs.s0.sp.1 sYs.s0.sp.2
  ·exact fun W g1 c1 g2 c2 hnt htb r1 r2 m1 m2 => total_fit W N A c c1 c2 n _ _ _ _ hnt hv hn htb hin hW3 r1 r2 m1 m2 _ 0 hE3.symm (by rw [if_pos rfl])
  ·exact fun W => qmul_any W _ _ _ _ ts.1 ts.2 sYs.s0.sp.1 sYs.s0.sp.2
  ·intro W;rw [← hsc];exact same_any W _ _ ⟨RP_Lp ok3 N, sum_sp ok3 hv hd hs hn⟩ ⟨Lp.pq (qp_nonneg _), (sum_sp ok3 hv hd hs hn).canon (RP_Lp ok3 N)⟩ (qp_pq (qp_nonneg _)).symm
end Go.Proofs.YtmhllppjcilllaaGreatDoor
end
