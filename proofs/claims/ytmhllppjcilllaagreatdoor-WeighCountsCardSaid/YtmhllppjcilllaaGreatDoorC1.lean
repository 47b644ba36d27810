import Derived.Test.YtmhllppjcilllaaGreatDoorSumN
import Derived.Laws.EntriesVeiled
import Derived.Laws.ResultCell
import Derived.Deep.CutRange
set_option linter.unusedSimpArgs false
set_option linter.unusedVariables false
set_option maxRecDepth 100000
set_option maxHeartbeats 400000
section
open Go Go.RowKit Cs
namespace Cs
def cntN (N : Nt) : Nat := if cchk N = 0 then (RN 0).sum N else 0
end Cs
namespace Go.Proofs.YtmhllppjcilllaaGreatDoor
theorem ret_nat_slot {fn : Func} {R : Ending → World → Prop} {a : Act} {w : World} {p u : Tmp} (h : fn.results = #[.cell p 31, .tmp u]) {g : Nat} {t : TypeId} (V : Nat)
  (hp : a.tmps.getD p undef = .pointer (some ⟨g, 0, none⟩)) (hrow : w.rowIs g t 1 fun _ => .string (natB V)) (hdf : a.defers = []) (hR : R (.returned (.tuple #[natV V, a.tmps.getD u undef])) w) : bodyPost Tryz.prog fn R .ret a w := by
 refine bodyPost_ret ?_ hdf hR;rw [results_cell_tmp h, hp];have hl := run_loadVar_row (P := Tryz.prog) w g t 31 _ (0, 0) _ (rowArr hrow) Tryz.underlying31 rfl (by simpa using size_nat);simp [asAddr, Result.andThen, hl]
theorem size_ringN : (Tryz.prog.info? 136).map (·.size) = some 6 := by kernel_rfl
theorem numbers_any (w : World) (nt : Int) : Calls Tryz.prog 87 #[.int .i64 nt] w fun e w' => ∃ p q, e = .returned (numV p q) ∧ w'.cell? ⟨q, 0, none⟩ = some (wtV p) ∧ w'.cell? ⟨p, 0, none⟩ = some (.int .i64 nt) ∧ Below w.heap.size w w' := by
 have hr := (World.rowIs_alloc (w.alloc (.cells #[.int .i64 nt] 3)) (numA w.heap.size (w.heap.size + 1 + 1)) 136 (ringF (numA w.heap.size (w.heap.size + 1 + 1))) fun i hi => by
   unfold ringF; rw [Array.getD_eq_getD_getElem?, Array.getElem?_eq_getElem hi]; rfl).alloc (.cells #[wtV w.heap.size] 67)
 simp only [List.size_toArray, List.length_cons, List.length_nil, Nat.zero_add, Nat.reduceAdd, World.size_alloc] at hr;have hp := boxCell (((boxNew w (.int .i64 nt) 3 _ rfl).alloc (.cells (numA w.heap.size (w.heap.size + 1 + 1)) 136)).alloc (.cells #[wtV w.heap.size] 67));have hq := boxCell (boxNew ((w.alloc (.cells #[.int .i64 nt] 3)).alloc (.cells (numA w.heap.size (w.heap.size + 1 + 1)) 136)) (wtV w.heap.size) 67 (w.heap.size + 1 + 1) (by simp));have hbl : Below w.heap.size w (((w.alloc (.cells #[.int .i64 nt] 3)).alloc (.cells (numA w.heap.size (w.heap.size + 1 + 1)) 136)).alloc (.cells #[wtV w.heap.size] 67)) := (((zqr _ _).alloc (zqn _) _).alloc (by simp) _).alloc (by simp; omega) _;have HR := zqh hr;have HP := zqh hp;have HQ := zqh hq;clear hr hp hq
 go_enter Tryz.func87, Tryz.ntmps87
 go_wp2
 refine ret_row rfl (w.heap.size + 1) 136 6 _ rfl HR.out _ Tryz.underlying136 rfl size_ringN rfl ⟨w.heap.size, w.heap.size + 1 + 1, rfl, HQ.out, HP.out, hbl⟩
theorem count_any (w : World) (N : Nt) (A : Option Addr) (c : Nat) (hlen : N.l.length ≤ 140737488355328) (hN : NtAt w w.heap.size A N.l) (hT : Tab w) :
  Calls Tryz.prog 44 #[ntV N A c] w fun e w' => e = .returned (.tuple #[natV (cntN N), .int .i64 (cchk N)]) ∧ Below w.heap.size w w' := by
 have hnet := (ntNew w N A c 24 _ rfl).alloc (.cells #[.string ⟨#[]⟩] 31);have hbl : Below w.heap.size w ((w.alloc (.cells #[.int .i64 N.n, .slice A N.l.length c] 24)).alloc (.cells #[.string ⟨#[]⟩] 31)) := ((zqr _ _).alloc (zqn _) _).alloc (by simp) _;have hres := boxNew (w.alloc (.cells #[.int .i64 N.n, .slice A N.l.length c] 24)) (.string ⟨#[]⟩) 31 (w.heap.size + 1) (by simp);have hcc := fun W h hT => countCheck_any W N A c hlen h hT;by_cases hk : cchk N = 0
 ·have hval : vld N = true ∧ shortB N = true := by
   unfold cchk at hk;cases h1 : vld N
   ·rw [h1] at hk; cases hk
   ·cases h2 : dcmp N
    ·rw [h1, h2] at hk; cases hk
    ·cases h3 : shortB N
     ·rw [h1, h2, h3] at hk; cases hk
     ·exact ⟨rfl, rfl⟩
  have hv : cntN N = (RN 0).sum N := by unfold cntN; rw [if_pos hk]
  have hsum := fun W p q h1 h2 h3 h4 => sumNat_any W N A c p q 0 h1 hval.1 hval.2 h2 h3 h4;rw [← hv] at hsum;rw [hk] at hcc ⊢;have HCC := zqh hcc;have HSM := zqh hsum;clear hk hval hv hcc hsum;obtain ⟨n, l⟩ := N;obtain ⟨V, hV⟩ : ∃ V, cntN ⟨n, l⟩ = V := ⟨_, rfl⟩;rw [hV] at HSM ⊢;clear hV
  go_enter Tryz.func44, Tryz.ntmps44
  go_wp2_with (
   go_at_call 79
   (with_reducible refine (HCC.out _ ((hN.below hbl).more hbl.size) (hT.below hbl)).mono ?_)
   rintro e w5 ⟨rfl, hb5⟩;replace hnet := rowBelow hnet hb5;replace hres := rowBelow hres hb5;replace hbl := zqx hbl hb5 hbl.size;obtain ⟨hc1, hc2⟩ := ntCells hnet;have hr1 := boxCell hres
   have hr2 := hres.frozen 0)
  have hnet' := hnet.drew;have hres' := hres.drew;have hbl' : Below w.heap.size w w5.drew := belowDrewN hbl 1;obtain ⟨hn1', hn2'⟩ := ntCells hnet';have HNE1 : Hid (w.heap.size + 1 ≠ w.heap.size) := zqh (by omega)
  go_region_held3 (fun w' => w'.cell? ⟨w.heap.size, 0, none⟩ = some (Value.int .i64 n) ∧ w'.cell? ⟨w.heap.size, 1, none⟩ = some (Value.slice A l.length c))
   (first | exact ⟨hn1', hn2'⟩ | exact ⟨(World.cell?_setCell_far _ _ _ _ HNE1.out).trans hn1', (World.cell?_setCell_far _ _ _ _ HNE1.out).trans hn2'⟩ | go_keep)
   (first
     | (go_simp
        go_at_call 87
        (with_reducible refine (numbers_any _ 0).mono ?_)
        rintro e w9 ⟨p, q, rfl, hcq, hcp, hb9⟩;replace hnet' := rowBelow hnet' hb9;replace hres' := rowBelow hres' hb9;replace hbl' := zqx hbl' hb9 hbl'.size;obtain ⟨hn1', hn2'⟩ := ntCells hnet';have hr1' := boxCell hres'
        have hr2' := hres'.frozen 0)
     | (go_simp
        go_at_call 86
        (with_reducible refine (HSM.out _ p q ((hN.below hbl').more hbl'.size) hcq hcp (hT.below hbl')).mono ?_)
        rintro e w9 ⟨rfl, hb9⟩;replace hnet' := rowBelow hnet' hb9;replace hres' := rowBelow hres' hb9;replace hbl' := zqx hbl' hb9 hbl'.size;obtain ⟨hn1', hn2'⟩ := ntCells hnet';have hr1' := boxCell hres'
        have hr2' := hres'.frozen 0))
  all_goals
   try go_wp2
   have hfin := boxSet hres' (.string (natB V));have hf1 := boxCell hfin;have hbf := hbl'.setCell (p := ⟨w.heap.size + 1, 0, none⟩) (by simp) (.string (natB V));exact ret_nat_slot rfl V rfl hfin rfl ⟨rfl, hbf⟩
 ·have hv : cntN N = 0 := by unfold cntN; rw [if_neg hk]
  have HCC := zqh hcc;have hb : (cchk N == 0) = false := beq_eq_false_iff_ne.2 hk;rw [hv];clear hk hv hcc;obtain ⟨n, l⟩ := N;obtain ⟨E, hE⟩ : ∃ E, cchk ⟨n, l⟩ = E := ⟨_, rfl⟩;rw [hE] at HCC hb ⊢;clear hE;have hz := natB_zero
  have HZ := zqh hz; clear hz
  go_enter Tryz.func44, Tryz.ntmps44
  go_wp2_with (
   go_at_call 79
   (with_reducible refine (HCC.out _ ((hN.below hbl).more hbl.size) (hT.below hbl)).mono ?_)
   rintro e w5 ⟨rfl, hb5⟩;replace hnet := rowBelow hnet hb5;replace hres := rowBelow hres hb5;replace hbl := zqx hbl hb5 hbl.size;obtain ⟨hc1, hc2⟩ := ntCells hnet;have hr1 := boxCell hres
   have hr2 := hres.frozen 0)
  refine ret_nat_slot (t := 31) rfl 0 rfl ?_ rfl ⟨rfl, hbl.setCell (by simp) _⟩;rw [HZ.out];exact boxSet hres _
end Go.Proofs.YtmhllppjcilllaaGreatDoor
end
