import Derived.Test.YtmhllppjcilllaaGreatDoorDt
import Derived.WalkMore
import Derived.Deep.CutBlock
import Derived.Deep.CutRange
set_option linter.unusedSimpArgs false
set_option linter.unusedVariables false
set_option maxRecDepth 100000
set_option maxHeartbeats 4000000
open Go Go.RowKit Cs
namespace Go.Proofs.YtmhllppjcilllaaGreatDoor
theorem putFarI {w : World} {g b i i' j : Nat} {u v : Value} {x : Option Value} (hne : g ≠ b) (h : w.cell? ⟨b, j, none⟩ = x) : ((w.setCell ⟨g, i, none⟩ u).setCell ⟨g, i', none⟩ v).cell? ⟨b, j, none⟩ = x :=
 (World.cell?_setCell_far _ _ _ _ hne).trans ((World.cell?_setCell_far _ _ _ _ hne).trans h)
theorem arrNew2 (w : World) (u v : Value) (t : TypeId) (g : Nat) (hg : w.heap.size = g) : (w.alloc (.cells #[u, v] t)).rowIs g t 2 (arrF #[u, v]) := arrNew w _ t g 2 hg rfl
theorem size_wts : (Tryz.prog.info? 39).map (·.size) = some 2 := by kernel_rfl
theorem ones_any (w : World) (n : Nat) (hn : n ≤ 128) :
  Calls Tryz.prog 39 #[.int .i64 n] w fun e w' => ∃ g1 g2, e = .returned (.tuple #[wtsV (some ⟨g1, 0, none⟩) (some ⟨g2, 0, none⟩) (n + 1) (n + 1) (n + 1) (n + 1), .int .i64 0]) ∧ g1 ≠ g2 ∧ w.heap.size ≤ g1 ∧ w.heap.size ≤ g2 ∧
   w'.rowIs g1 33 ((n + 1) * 2) (prsF (List.replicate (n + 1) (1, 1))) ∧ w'.rowIs g2 33 ((n + 1) * 2) (prsF (List.replicate (n + 1) (1, 1))) ∧ Below w.heap.size w w' := by
 have hmk := mk_rat1 n (by omega)
 go_enter Tryz.func39, Tryz.ntmps39
 have hb1 : decide ((n : Int) < 0) = false := decide_eq_false (by omega);have hb2 : decide ((128 : Int) < (n : Int)) = false := decide_eq_false (by omega)
 go_wp2_with fail
 go_cut [4] from 13 to 19 (fun p wx => ∃ gu g1 g2, p = .pointer (some ⟨gu, 0, none⟩) ∧ wx.rowIs gu 39 2 (arrF #[.slice (some ⟨g1, 0, none⟩) (n + 1) (n + 1), .slice (some ⟨g2, 0, none⟩) (n + 1) (n + 1)]) ∧
   wx.rowIs g1 33 ((n + 1) * 2) (prsF []) ∧ wx.rowIs g2 33 ((n + 1) * 2) (prsF []) ∧ wx.rowIs w.heap.size 39 2 (arrF #[.slice none 0 0, .slice none 0 0]) ∧ Below w.heap.size w wx ∧ gu ≠ g1 ∧ gu ≠ g2 ∧ g1 ≠ g2 ∧ w.heap.size < gu ∧ w.heap.size < g1 ∧ w.heap.size < g2)
 case first =>
  go_wp2_with fail
  go_region
  all_goals
   try go_wp2
   go_meet
   first
    | (refine ⟨_, w.heap.size + 1, w.heap.size + 1 + 1, rfl, ?_, ?_, ?_, ?_, ?_, by omega, by omega, by omega, by omega, by omega, by omega⟩
       ·(first | (with_reducible refine (arrNew2 _ _ _ _ _ ?_).drew; (try simp); done) | (with_reducible refine ((arrNew2 _ _ _ _ _ ?_).alloc _).drew; (try simp); done) | (with_reducible refine (((arrNew2 _ _ _ _ _ ?_).alloc _).alloc _).drew; (try simp); done))
       ·(first | (with_reducible refine (prsMade _ _ _ _ ?_).drew; (try simp); done) | (with_reducible refine ((prsMade _ _ _ _ ?_).alloc _).drew; (try simp); done) | (with_reducible refine (((prsMade _ _ _ _ ?_).alloc _).alloc _).drew; (try simp); done))
       ·(first | (with_reducible refine (prsMade _ _ _ _ ?_).drew; (try simp); done) | (with_reducible refine ((prsMade _ _ _ _ ?_).alloc _).drew; (try simp); done) | (with_reducible refine (((prsMade _ _ _ _ ?_).alloc _).alloc _).drew; (try simp); done))
       ·(first | with_reducible exact ((((arrNew2 w _ _ _ _ rfl).alloc _).alloc _).alloc _).drew | exact ((((arrNew2 w _ _ _ _ rfl).alloc _).alloc _).alloc _).drew)
       ·exact (((((Below.refl w.heap.size w).alloc (zqn _) _).alloc (by simp) _).alloc (by simp; omega) _).alloc (by simp; omega) _).drew)
    | (refine ⟨_, w.heap.size + 1 + 1, w.heap.size + 1, rfl, ?_, ?_, ?_, ?_, ?_, by omega, by omega, by omega, by omega, by omega, by omega⟩
       ·(first | (with_reducible refine (arrNew2 _ _ _ _ _ ?_).drew; (try simp); done) | (with_reducible refine ((arrNew2 _ _ _ _ _ ?_).alloc _).drew; (try simp); done) | (with_reducible refine (((arrNew2 _ _ _ _ _ ?_).alloc _).alloc _).drew; (try simp); done))
       ·(first | (with_reducible refine (prsMade _ _ _ _ ?_).drew; (try simp); done) | (with_reducible refine ((prsMade _ _ _ _ ?_).alloc _).drew; (try simp); done) | (with_reducible refine (((prsMade _ _ _ _ ?_).alloc _).alloc _).drew; (try simp); done))
       ·(first | (with_reducible refine (prsMade _ _ _ _ ?_).drew; (try simp); done) | (with_reducible refine ((prsMade _ _ _ _ ?_).alloc _).drew; (try simp); done) | (with_reducible refine (((prsMade _ _ _ _ ?_).alloc _).alloc _).drew; (try simp); done))
       ·(first | with_reducible exact ((((arrNew2 w _ _ _ _ rfl).alloc _).alloc _).alloc _).drew | exact ((((arrNew2 w _ _ _ _ rfl).alloc _).alloc _).alloc _).drew)
       ·exact (((((Below.refl w.heap.size w).alloc (zqn _) _).alloc (by simp) _).alloc (by simp; omega) _).alloc (by simp; omega) _).drew)
    | (refine ⟨_, w.heap.size + 1, w.heap.size + 1 + 1 + 1, rfl, ?_, ?_, ?_, ?_, ?_, by omega, by omega, by omega, by omega, by omega, by omega⟩
       ·(first | (with_reducible refine (arrNew2 _ _ _ _ _ ?_).drew; (try simp); done) | (with_reducible refine ((arrNew2 _ _ _ _ _ ?_).alloc _).drew; (try simp); done) | (with_reducible refine (((arrNew2 _ _ _ _ _ ?_).alloc _).alloc _).drew; (try simp); done))
       ·(first | (with_reducible refine (prsMade _ _ _ _ ?_).drew; (try simp); done) | (with_reducible refine ((prsMade _ _ _ _ ?_).alloc _).drew; (try simp); done) | (with_reducible refine (((prsMade _ _ _ _ ?_).alloc _).alloc _).drew; (try simp); done))
       ·(first | (with_reducible refine (prsMade _ _ _ _ ?_).drew; (try simp); done) | (with_reducible refine ((prsMade _ _ _ _ ?_).alloc _).drew; (try simp); done) | (with_reducible refine (((prsMade _ _ _ _ ?_).alloc _).alloc _).drew; (try simp); done))
       ·(first | with_reducible exact ((((arrNew2 w _ _ _ _ rfl).alloc _).alloc _).alloc _).drew | exact ((((arrNew2 w _ _ _ _ rfl).alloc _).alloc _).alloc _).drew)
       ·exact (((((Below.refl w.heap.size w).alloc (zqn _) _).alloc (by simp) _).alloc (by simp; omega) _).alloc (by simp; omega) _).drew)
    | (refine ⟨_, w.heap.size + 1 + 1 + 1, w.heap.size + 1, rfl, ?_, ?_, ?_, ?_, ?_, by omega, by omega, by omega, by omega, by omega, by omega⟩
       ·(first | (with_reducible refine (arrNew2 _ _ _ _ _ ?_).drew; (try simp); done) | (with_reducible refine ((arrNew2 _ _ _ _ _ ?_).alloc _).drew; (try simp); done) | (with_reducible refine (((arrNew2 _ _ _ _ _ ?_).alloc _).alloc _).drew; (try simp); done))
       ·(first | (with_reducible refine (prsMade _ _ _ _ ?_).drew; (try simp); done) | (with_reducible refine ((prsMade _ _ _ _ ?_).alloc _).drew; (try simp); done) | (with_reducible refine (((prsMade _ _ _ _ ?_).alloc _).alloc _).drew; (try simp); done))
       ·(first | (with_reducible refine (prsMade _ _ _ _ ?_).drew; (try simp); done) | (with_reducible refine ((prsMade _ _ _ _ ?_).alloc _).drew; (try simp); done) | (with_reducible refine (((prsMade _ _ _ _ ?_).alloc _).alloc _).drew; (try simp); done))
       ·(first | with_reducible exact ((((arrNew2 w _ _ _ _ rfl).alloc _).alloc _).alloc _).drew | exact ((((arrNew2 w _ _ _ _ rfl).alloc _).alloc _).alloc _).drew)
       ·exact (((((Below.refl w.heap.size w).alloc (zqn _) _).alloc (by simp) _).alloc (by simp; omega) _).alloc (by simp; omega) _).drew)
    | (refine ⟨_, w.heap.size + 1 + 1, w.heap.size + 1 + 1 + 1, rfl, ?_, ?_, ?_, ?_, ?_, by omega, by omega, by omega, by omega, by omega, by omega⟩
       ·(first | (with_reducible refine (arrNew2 _ _ _ _ _ ?_).drew; (try simp); done) | (with_reducible refine ((arrNew2 _ _ _ _ _ ?_).alloc _).drew; (try simp); done) | (with_reducible refine (((arrNew2 _ _ _ _ _ ?_).alloc _).alloc _).drew; (try simp); done))
       ·(first | (with_reducible refine (prsMade _ _ _ _ ?_).drew; (try simp); done) | (with_reducible refine ((prsMade _ _ _ _ ?_).alloc _).drew; (try simp); done) | (with_reducible refine (((prsMade _ _ _ _ ?_).alloc _).alloc _).drew; (try simp); done))
       ·(first | (with_reducible refine (prsMade _ _ _ _ ?_).drew; (try simp); done) | (with_reducible refine ((prsMade _ _ _ _ ?_).alloc _).drew; (try simp); done) | (with_reducible refine (((prsMade _ _ _ _ ?_).alloc _).alloc _).drew; (try simp); done))
       ·(first | with_reducible exact ((((arrNew2 w _ _ _ _ rfl).alloc _).alloc _).alloc _).drew | exact ((((arrNew2 w _ _ _ _ rfl).alloc _).alloc _).alloc _).drew)
       ·exact (((((Below.refl w.heap.size w).alloc (zqn _) _).alloc (by simp) _).alloc (by simp; omega) _).alloc (by simp; omega) _).drew)
    | (refine ⟨_, w.heap.size + 1 + 1 + 1, w.heap.size + 1 + 1, rfl, ?_, ?_, ?_, ?_, ?_, by omega, by omega, by omega, by omega, by omega, by omega⟩
       ·(first | (with_reducible refine (arrNew2 _ _ _ _ _ ?_).drew; (try simp); done) | (with_reducible refine ((arrNew2 _ _ _ _ _ ?_).alloc _).drew; (try simp); done) | (with_reducible refine (((arrNew2 _ _ _ _ _ ?_).alloc _).alloc _).drew; (try simp); done))
       ·(first | (with_reducible refine (prsMade _ _ _ _ ?_).drew; (try simp); done) | (with_reducible refine ((prsMade _ _ _ _ ?_).alloc _).drew; (try simp); done) | (with_reducible refine (((prsMade _ _ _ _ ?_).alloc _).alloc _).drew; (try simp); done))
       ·(first | (with_reducible refine (prsMade _ _ _ _ ?_).drew; (try simp); done) | (with_reducible refine ((prsMade _ _ _ _ ?_).alloc _).drew; (try simp); done) | (with_reducible refine (((prsMade _ _ _ _ ?_).alloc _).alloc _).drew; (try simp); done))
       ·(first | with_reducible exact ((((arrNew2 w _ _ _ _ rfl).alloc _).alloc _).alloc _).drew | exact ((((arrNew2 w _ _ _ _ rfl).alloc _).alloc _).alloc _).drew)
       ·exact (((((Below.refl w.heap.size w).alloc (zqn _) _).alloc (by simp) _).alloc (by simp; omega) _).alloc (by simp; omega) _).drew)
 case rest =>
  obtain ⟨gu, g1, g2, rfl, hu, h1, h2, hr, hbel, n1, n2, n3, l1, l2, l3⟩ := hcut;clear hmk
  go_wp2_with fail
  go_loopw [22] (fun t wr => ∃ k : Nat, k ≤ n + 1 ∧ t = .int .i64 k ∧ wr.rowIs gu 39 2 (arrF #[.slice (some ⟨g1, 0, none⟩) (n + 1) (n + 1), .slice (some ⟨g2, 0, none⟩) (n + 1) (n + 1)]) ∧
   wr.rowIs g1 33 ((n + 1) * 2) (prsF (List.replicate k (1, 1))) ∧ wr.rowIs g2 33 ((n + 1) * 2) (prsF (List.replicate k (1, 1))) ∧ wr.rowIs w.heap.size 39 2 (arrF #[.slice none 0 0, .slice none 0 0]) ∧ Below w.heap.size w wr) (fun t _ => n + 1 - (intOf t).toNat)
  case atStart => exact ⟨0, by omega, rfl, hu, h1, h2, hr, hbel⟩
  case round =>
   clear hu h1 h2 hr hbel;obtain ⟨k, hk, rfl, hu, h1, h2, hr, hbel⟩ := hrel;have d1 : wr.cell? ⟨gu, 0, none⟩ = some (.slice (some ⟨g1, 0, none⟩) (n + 1) (n + 1)) := hu.cell (i := 0) (by omega);have d2 : wr.cell? ⟨gu, 1, none⟩ = some (.slice (some ⟨g2, 0, none⟩) (n + 1) (n + 1)) := hu.cell (i := 1) (by omega);by_cases hlt : k < n + 1
   ·have hi1 : (0 : Int) ≤ (k : Int) := by omega
    have hi2 : (k : Int) < (n : Int) + 1 := by omega
    have hlen : k = (List.replicate k ((1, 1) : Pr)).length := by simp
    have hsu : List.replicate (k + 1) ((1, 1) : Pr) = List.replicate k (1, 1) ++ [(1, 1)] := List.replicate_succ';have HLN := zqh hlen;have HSU := zqh hsu;clear hlen hsu
    go_wp2_with fail
    replace hu := hu.drew;replace h1 := h1.drew;replace h2 := h2.drew;replace hr := hr.drew;replace hbel := hbel.drew;have n4 := n3
    go_region_held3 (fun w' => w'.cell? ⟨gu, 0, none⟩ = some (.slice (some ⟨g1, 0, none⟩) (n + 1) (n + 1)) ∧ w'.cell? ⟨gu, 1, none⟩ = some (.slice (some ⟨g2, 0, none⟩) (n + 1) (n + 1)))
     (first | with_reducible exact ⟨d1, d2⟩ | with_reducible exact ⟨putFarI (Ne.symm n1) d1, putFarI (Ne.symm n1) d2⟩ | with_reducible exact ⟨putFarI (Ne.symm n2) (putFarI (Ne.symm n1) d1), putFarI (Ne.symm n2) (putFarI (Ne.symm n1) d2)⟩ | go_keep)
     (first
       | (go_simp
          go_at_call 84
          (with_reducible refine (one_any _).mono ?_)
          rintro e w9 ⟨rfl, hb9⟩;replace hu := rowBelow hu hb9;replace h1 := rowBelow h1 hb9;replace h2 := rowBelow h2 hb9;replace hr := rowBelow hr hb9;replace hbel := zqx hbel hb9 hbel.size;have d1 : World.cell? _ ⟨gu, 0, none⟩ = some (.slice (some ⟨g1, 0, none⟩) (n + 1) (n + 1)) := hu.cell (i := 0) (by omega);have d2 : World.cell? _ ⟨gu, 1, none⟩ = some (.slice (some ⟨g2, 0, none⟩) (n + 1) (n + 1)) := hu.cell (i := 1) (by omega);have a1 := h1.cell (i := k * 2) (by omega);have a2 := h1.cell (i := k * 2 + 1) (by omega);have b1 := h2.cell (i := k * 2) (by omega);have b2 := h2.cell (i := k * 2 + 1) (by omega);have e1 := h1.frozen (k * 2);have e2 := h1.frozen (k * 2 + 1);have e3 := h2.frozen (k * 2)
          have e4 := h2.frozen (k * 2 + 1)))
    all_goals
     try go_wp2
     go_roundw
     case rel =>
      refine ⟨k + 1, by omega, by go_num, ?_, ?_, ?_, ?_, ?_⟩
      ·exact (((hu.setOther n1 _).setOther n1 _).setOther n2 _).setOther n2 _
      ·rw [HSU.out]; exact ((prsNext h1 (1, 1) k HLN.out).setOther n3 _).setOther n3 _
      ·rw [HSU.out]; exact prsNext ((h2.setOther (Ne.symm n3) _).setOther (Ne.symm n3) _) (1, 1) k HLN.out
      ·exact (((hr.setOther (by simp; omega) _).setOther (by simp; omega) _).setOther (by simp; omega) _).setOther (by simp; omega) _
      ·exact (((hbel.setCell (by simp; omega) _).setCell (by simp; omega) _).setCell (by simp; omega) _).setCell (by simp; omega) _
     case measure => simp [intOf]; omega
   ·obtain rfl : k = n + 1 := by omega
    have r1 := hr.cell (i := 0) (by omega);have r2 := hr.cell (i := 1) (by omega);have f1 := hr.frozen 0;have f2 := hr.frozen 1
    go_wp2_with fail
    refine bodyPost_ret (v := .tuple #[wtsV (some ⟨g1, 0, none⟩) (some ⟨g2, 0, none⟩) (n + 1) (n + 1) (n + 1) (n + 1), .int .i64 0]) ?_ rfl ⟨g1, g2, rfl, n3, by omega, by omega, (h1.setOther (by simp; omega) _).setOther (by simp; omega) _, (h2.setOther (by simp; omega) _).setOther (by simp; omega) _, (hbel.setCell (by simp) _).setCell (by simp) _⟩;rw [results_cell_tmp rfl];have hl := run_loadVar_row (P := Tryz.prog) _ w.heap.size 39 39 _ (0, 0) _ (rowArr (pairRow hr (.slice (some ⟨g1, 0, none⟩) (n + 1) (n + 1)) (.slice (some ⟨g2, 0, none⟩) (n + 1) (n + 1)))) Tryz.underlying39 rfl (by simpa using size_wts);simp [asAddr, Result.andThen, hl]
    rfl
end Go.Proofs.YtmhllppjcilllaaGreatDoor
