import Derived.Test.YtmhllppjcilllaaGreatDoorC1
set_option linter.unusedSimpArgs false
set_option linter.unusedVariables false
set_option maxRecDepth 100000
set_option maxHeartbeats 4000000
section
open Go Go.RowKit Cs
namespace Cs
def lowL (N : Nt) (k : Nat) : List Nat := 0 :: (List.range k).map fun i : Nat => (RN ((i : Int) + 1)).sum N
def highL (N : Nt) (k : Nat) : List Nat := 0 :: (List.range k).map fun i : Nat => (RN (-((i : Int) + 1))).sum N
theorem lowL_succ (N : Nt) (k : Nat) : lowL N (k + 1) = lowL N k ++ [(RN ((k : Int) + 1)).sum N] := by unfold lowL; rw [List.range_succ]; simp
theorem highL_succ (N : Nt) (k : Nat) : highL N (k + 1) = highL N k ++ [(RN (-((k : Int) + 1))).sum N] := by unfold highL; rw [List.range_succ]; simp
theorem lowL_len (N : Nt) (k : Nat) : (lowL N k).length = k + 1 := by unfold lowL; simp
theorem highL_len (N : Nt) (k : Nat) : (highL N k).length = k + 1 := by unfold highL; simp
theorem cchk_zero3 {N : Nt} (hk : cchk N = 0) : vld N = true ∧ dcmp N = true ∧ shortB N = true := by
 unfold cchk at hk;cases h1 : vld N
 ·rw [h1] at hk; cases hk
 ·cases h2 : dcmp N
  ·rw [h1, h2] at hk; cases hk
  ·cases h3 : shortB N
   ·rw [h1, h2, h3] at hk; cases hk
   ·exact ⟨rfl, rfl, rfl⟩
theorem natsF_zero (i : Nat) : natsF [] i = natsF [0] i := by unfold natsF; cases i <;> simp
end Cs
namespace Go.Proofs.YtmhllppjcilllaaGreatDoor
theorem byLit_any (w : World) (N : Nt) (A : Option Addr) (c m : Nat) (hm : N.n = (m : Int)) (hN : NtAt w w.heap.size A N.l) (hT : Tab w) (hk : cchk N = 0) :
  Calls Tryz.prog 45 #[ntV N A c] w fun e w' => ∃ gl gh, e = .returned (.tuple #[.slice (some ⟨gl, 0, none⟩) (m + 1) (m + 1), .slice (some ⟨gh, 0, none⟩) (m + 1) (m + 1), .int .i64 0]) ∧
   w.heap.size ≤ gl ∧ w.heap.size ≤ gh ∧ w'.rowIs gl 31 (m + 1) (natsF (lowL N m)) ∧ w'.rowIs gh 31 (m + 1) (natsF (highL N m)) ∧ Below w.heap.size w w' := by
 obtain ⟨hv, _, hs⟩ := cchk_zero3 hk;obtain ⟨hn0, hn1, hl0, hl1⟩ := vld_bounds hv;have hcc := fun W h hT => countCheck_any W N A c (by omega) h hT;rw [hk] at hcc;have hsm := fun W nt p q h1 h2 h3 h4 => sumNat_any W N A c p q nt h1 hv hs h2 h3 h4;have HCC := zqh hcc;have HSM := zqh hsm;clear hcc hsm hk hv hs;obtain ⟨n, l⟩ := N;obtain rfl : n = (m : Int) := hm;simp only at hn0 hn1 hl0 hl1 hN;have hnet := ntNew w ⟨(m : Int), l⟩ A c 24 _ rfl;have hbl : Below w.heap.size w (w.alloc (.cells #[.int .i64 (m : Int), .slice A l.length c] 24)) := (zqr _ _).alloc (zqn _) _;have hmk := mk_nat (m + 1) (by omega);rw [Int.natCast_succ] at hmk
 have hwr : IntKind.i64.wrap ((m : Int) + 1) = (m : Int) + 1 := by rw [IntKind.wrap_i64]; omega
 go_enter Tryz.func45, Tryz.ntmps45
 go_wp2_with (
  go_at_call 79
  (with_reducible refine (HCC.out _ ((hN.below hbl).more hbl.size) (hT.below hbl)).mono ?_)
  rintro e w5 ⟨rfl, hb5⟩;replace hnet := rowBelow hnet hb5;replace hbl := zqx hbl hb5 hbl.size
  obtain ⟨hc1, hc2⟩ := ntCells hnet)
 have hz := hnet.lt
 go_cut [2, 3] from 11 to 19 (fun a b wx => ∃ gl gh, a = .slice (some ⟨gl, 0, none⟩) (m + 1) (m + 1) ∧ b = .slice (some ⟨gh, 0, none⟩) (m + 1) (m + 1) ∧ w.heap.size < gl ∧ w.heap.size < gh ∧ gl ≠ gh ∧
  wx.rowIs gl 31 (m + 1) (natsF [0]) ∧ wx.rowIs gh 31 (m + 1) (natsF [0]) ∧ wx.rowIs w.heap.size 24 2 (ntF ⟨(m : Int), l⟩ A c) ∧ Below w.heap.size w wx)
 case first =>
  have hc1' : w5.drew.cell? ⟨w.heap.size, 0, none⟩ = some (.int .i64 (m : Int)) := hc1
  go_region_held3 (fun w' => w'.cell? ⟨w.heap.size, 0, none⟩ = some (.int .i64 (m : Int))) (first | go_keep) (fail)
  all_goals
   try go_wp2
   go_meet
   case rel =>
    have r1 : (w5.alloc (.cells (madeCells #[.string ⟨#[]⟩] (m + 1)) 31)).rowIs w5.heap.size 31 (m + 1) (natsF [0]) := (natsMade w5 (m + 1) 31 w5.heap.size rfl).congr fun i _ => natsF_zero i;have r2 : ((w5.alloc (.cells (madeCells #[.string ⟨#[]⟩] (m + 1)) 31)).alloc (.cells (madeCells #[.string ⟨#[]⟩] (m + 1)) 31)).rowIs (w5.heap.size + 1) 31 (m + 1) (natsF [0]) := (natsMade _ (m + 1) 31 (w5.heap.size + 1) (by simp)).congr fun i _ => natsF_zero i;have n1 := ((hnet.alloc (.cells (madeCells #[.string ⟨#[]⟩] (m + 1)) 31)).alloc (.cells (madeCells #[.string ⟨#[]⟩] (m + 1)) 31)).drew;have b1 := belowDrewN ((hbl.alloc (by omega) (.cells (madeCells #[.string ⟨#[]⟩] (m + 1)) 31)).alloc (by simp; omega) (.cells (madeCells #[.string ⟨#[]⟩] (m + 1)) 31)) 1
    first
     | exact ⟨_, _, rfl, rfl, by omega, by omega, by omega, (r1.alloc _).drew, r2.drew, n1, b1⟩
     | exact ⟨_, _, rfl, rfl, by omega, by omega, by omega, r2.drew, (r1.alloc _).drew, n1, b1⟩
 case rest =>
  obtain ⟨gl, gh, rfl, rfl, hgl, hgh, hgg, hlo, hhi, hnet', hbl'⟩ := hcut;clear hnet hbl hc1 hc2 hz hb5 hmk hwr HCC
  go_wp2
  go_loopw [6] (fun t wr => ∃ k : Nat, k ≤ m ∧ t = .int .i64 ((k : Int) + 1) ∧ wr.rowIs gl 31 (m + 1) (natsF (lowL ⟨(m : Int), l⟩ k)) ∧ wr.rowIs gh 31 (m + 1) (natsF (highL ⟨(m : Int), l⟩ k)) ∧ wr.rowIs w.heap.size 24 2 (ntF ⟨(m : Int), l⟩ A c) ∧ Below w.heap.size w wr) (fun t _ => m + 1 - (intOf t).toNat)
  case atStart => exact ⟨0, by omega, rfl, hlo, hhi, hnet', hbl'⟩
  case round =>
   clear hlo hhi hnet' hbl';obtain ⟨k, hk, rfl, hlo, hhi, hnet, hbl⟩ := hrel;obtain ⟨hc1, hc2⟩ := ntCells hnet;by_cases hlt : k < m
   ·have hs1 := fun W p q h1 h2 h3 h4 => HSM.out W ((k : Int) + 1) p q h1 h2 h3 h4;have hs2 := fun W p q h1 h2 h3 h4 => HSM.out W (-((k : Int) + 1)) p q h1 h2 h3 h4;have hls := lowL_succ ⟨(m : Int), l⟩ k;have hhs := highL_succ ⟨(m : Int), l⟩ k;have hll := lowL_len ⟨(m : Int), l⟩ k;have hhl := highL_len ⟨(m : Int), l⟩ k;obtain ⟨V1, hV1⟩ : ∃ V, (RN ((k : Int) + 1)).sum ⟨(m : Int), l⟩ = V := ⟨_, rfl⟩;obtain ⟨V2, hV2⟩ : ∃ V, (RN (-((k : Int) + 1))).sum ⟨(m : Int), l⟩ = V := ⟨_, rfl⟩;obtain ⟨L1, hL1⟩ : ∃ L, lowL ⟨(m : Int), l⟩ k = L := ⟨_, rfl⟩;obtain ⟨L2, hL2⟩ : ∃ L, highL ⟨(m : Int), l⟩ k = L := ⟨_, rfl⟩;simp only [hV1] at hs1 hls;simp only [hV2] at hs2 hhs;rw [hL1] at hls hll hlo;rw [hL2] at hhs hhl hhi;have HS1 := zqh hs1;have HS2 := zqh hs2;have HLS := zqh hls;have HHS := zqh hhs;have HLL := zqh hll;have HHL := zqh hhl;clear hs1 hs2 hls hhs hll hhl hV1 hV2 hL1 hL2;have hnet' := hnet.drew;have hlo' := hlo.drew;have hhi' := hhi.drew;have hbl' : Below w.heap.size w wr.drew := belowDrewN hbl 1;obtain ⟨hn1', hn2'⟩ := ntCells hnet';have hl1' := hlo'.cell (i := k + 1) (by omega);have hl2' := hlo'.frozen (k + 1);have hh1' := hhi'.cell (i := k + 1) (by omega);have hh2' := hhi'.frozen (k + 1)
    have hi1 : (0 : Int) ≤ (k : Int) + 1 := by omega
    have hi2 : (k : Int) + 1 < (m : Int) + 1 := by omega
    have hi3 : (k : Int) + 1 ≤ (m : Int) := by omega
    have hwr : IntKind.i64.wrap (-((k : Int) + 1)) = -((k : Int) + 1) := by rw [IntKind.wrap_i64]; omega
    have HNE1 : Hid (gl ≠ w.heap.size) := zqh (by omega);have HNE2 : Hid (gh ≠ w.heap.size) := zqh (by omega);have HNE3 : Hid (gl ≠ gh) := zqh hgg
    go_wp2_with fail
    go_region_held3 (fun w' => w'.cell? ⟨w.heap.size, 0, none⟩ = some (Value.int .i64 (m : Int)) ∧ w'.cell? ⟨w.heap.size, 1, none⟩ = some (Value.slice A l.length c))
     (first | exact ⟨hn1', hn2'⟩ | exact ⟨(World.cell?_setCell_far _ _ _ _ HNE1.out).trans hn1', (World.cell?_setCell_far _ _ _ _ HNE1.out).trans hn2'⟩ | exact ⟨(World.cell?_setCell_far _ _ _ _ HNE2.out).trans ((World.cell?_setCell_far _ _ _ _ HNE1.out).trans hn1'), (World.cell?_setCell_far _ _ _ _ HNE2.out).trans ((World.cell?_setCell_far _ _ _ _ HNE1.out).trans hn2')⟩ | go_keep)
     (first
       | (go_simp
          go_at_call 87
          (with_reducible refine (numbers_any _ ((k : Int) + 1)).mono ?_)
          rintro e w9 ⟨p, q, rfl, hcq, hcp, hb9⟩;replace hnet' := rowBelow hnet' hb9;replace hlo' := rowBelow hlo' hb9;replace hhi' := rowBelow hhi' hb9;replace hbl' := zqx hbl' hb9 hbl'.size;obtain ⟨hn1', hn2'⟩ := ntCells hnet';have hl1' := hlo'.cell (i := k + 1) (by omega);have hl2' := hlo'.frozen (k + 1);have hh1' := hhi'.cell (i := k + 1) (by omega)
          have hh2' := hhi'.frozen (k + 1))
       | (go_simp
          go_at_call 86
          (with_reducible refine (HS1.out _ p q ((hN.below hbl').more hbl'.size) hcq hcp (hT.below hbl')).mono ?_)
          rintro e w9 ⟨rfl, hb9⟩;replace hnet' := rowBelow hnet' hb9;replace hlo' := rowBelow hlo' hb9;replace hhi' := rowBelow hhi' hb9;replace hbl' := zqx hbl' hb9 hbl'.size;obtain ⟨hn1', hn2'⟩ := ntCells hnet';have hl1' := hlo'.cell (i := k + 1) (by omega);have hl2' := hlo'.frozen (k + 1);have hh1' := hhi'.cell (i := k + 1) (by omega)
          have hh2' := hhi'.frozen (k + 1))
       | (go_simp
          go_at_call 87
          (with_reducible refine (numbers_any _ (-((k : Int) + 1))).mono ?_)
          rintro e w9 ⟨p2, q2, rfl, hcq2, hcp2, hb9⟩;replace hnet' := rowBelow hnet' hb9;replace hlo' := rowBelow hlo' hb9;replace hhi' := rowBelow hhi' hb9;replace hbl' := zqx hbl' hb9 hbl'.size;obtain ⟨hn1', hn2'⟩ := ntCells hnet';have hl1' := hlo'.cell (i := k + 1) (by omega);have hl2' := hlo'.frozen (k + 1);have hh1' := hhi'.cell (i := k + 1) (by omega)
          have hh2' := hhi'.frozen (k + 1))
       | (go_simp
          go_at_call 86
          (with_reducible refine (HS2.out _ p2 q2 ((hN.below hbl').more hbl'.size) hcq2 hcp2 (hT.below hbl')).mono ?_)
          rintro e w9 ⟨rfl, hb9⟩;replace hnet' := rowBelow hnet' hb9;replace hlo' := rowBelow hlo' hb9;replace hhi' := rowBelow hhi' hb9;replace hbl' := zqx hbl' hb9 hbl'.size;obtain ⟨hn1', hn2'⟩ := ntCells hnet';have hl1' := hlo'.cell (i := k + 1) (by omega);have hl2' := hlo'.frozen (k + 1);have hh1' := hhi'.cell (i := k + 1) (by omega)
          have hh2' := hhi'.frozen (k + 1)))
    all_goals
     try go_wp2
     go_roundw
     case rel =>
      have r1 := natsNext hlo' (k + 1) V1 HLL.out.symm;have r2 := natsNext hhi' (k + 1) V2 HHL.out.symm;refine ⟨k + 1, by omega, by go_num, ?_, ?_, (hnet'.setOther (by simp; omega) _).setOther (by simp; omega) _, (hbl'.setCell (by simp; omega) _).setCell (by simp; omega) _⟩
      ·rw [HLS.out]; exact r1.setOther (by simp; omega) _
      ·rw [HHS.out]; exact natsNext (hhi'.setOther (by simp; omega) _) (k + 1) V2 HHL.out.symm
     case measure => simp [intOf]; omega
   ·obtain rfl : k = m := by omega
    go_wp2
    go_ret3
    exact ⟨gl, gh, rfl, by omega, by omega, hlo, hhi, hbl⟩
theorem byLit_no (w : World) (N : Nt) (A : Option Addr) (c : Nat) (hlen : N.l.length ≤ 140737488355328) (hN : NtAt w w.heap.size A N.l) (hT : Tab w) (hk : cchk N ≠ 0) :
  Calls Tryz.prog 45 #[ntV N A c] w fun e w' => e = .returned (.tuple #[.slice none 0 0, .slice none 0 0, .int .i64 (cchk N)]) ∧ Below w.heap.size w w' := by
 have hcc := fun W h hT => countCheck_any W N A c hlen h hT;have HCC := zqh hcc;have hb : (cchk N == 0) = false := beq_eq_false_iff_ne.2 hk;have hbl : Below w.heap.size w (w.alloc (.cells #[.int .i64 N.n, .slice A N.l.length c] 24)) := (zqr _ _).alloc (zqn _) _;clear hk hcc;obtain ⟨n, l⟩ := N;obtain ⟨E, hE⟩ : ∃ E, cchk ⟨n, l⟩ = E := ⟨_, rfl⟩;rw [hE] at HCC hb ⊢;clear hE
 go_enter Tryz.func45, Tryz.ntmps45
 go_wp2_with (
  go_at_call 79
  (with_reducible refine (HCC.out _ ((hN.below hbl).more hbl.size) (hT.below hbl)).mono ?_)
  rintro e w5 ⟨rfl, hb5⟩
  replace hbl := zqx hbl hb5 hbl.size)
 go_ret3
 exact ⟨rfl, hbl⟩
end Go.Proofs.YtmhllppjcilllaaGreatDoor
end
