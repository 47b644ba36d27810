import Derived.Test.YtmhllppjcilllaaGreatDoorSh
import Derived.Test.YtmhllppjcilllaaGreatDoorDw
set_option linter.unusedSimpArgs false
set_option linter.unusedVariables false
set_option maxRecDepth 100000
set_option maxHeartbeats 1000000
open Go Go.RowKit Cs
namespace Go.Proofs.YtmhllppjcilllaaGreatDoor
section
variable (w : World) (N : Nt) (A : Option Addr) (c cl ch ll lh : Nat) (Al Ah : Option Addr) (E : Int)
abbrev CkE : Prop := ∀ W, Below w.heap.size w W → Calls Tryz.prog 35 #[ntV N A c, wtsV Al Ah ll lh cl ch] W fun e w' => e = .returned (.int .i64 E) ∧ Below W.heap.size W w'
theorem total_err (h0 : E ≠ 0) (hck : CkE w N A c cl ch ll lh Al Ah E) :
  Calls Tryz.prog 16 #[ntV N A c, wtsV Al Ah ll lh cl ch] w fun e w' => e = .returned (.tuple #[ratV 0 0, .int .i64 E]) ∧ Below w.heap.size w w' := by
 have q0 := (((Bag.zero w).new #[.int .i64 N.n, .slice A N.l.length c] 24 w.heap.size 2 rfl rfl).new #[.slice Al ll cl, .slice Ah lh ch] 39 (w.heap.size + 1) 2 (by simp) rfl).new #[.string ⟨#[]⟩, .string ⟨#[]⟩] 33 (w.heap.size + 1 + 1) 2 (by simp) rfl;have hb0 : (E == 0) = false := beq_eq_false_iff_ne.2 h0
 have hb1 : (E != 0) = true := by simp [bne, hb0]
 have HCK := zqh hck;clear hck
 go_enter Tryz.func16, Tryz.ntmps16
 go_wp2_with (
  go_at_call 35
  (with_reducible refine (HCK.out _ q0.bl).mono ?_)
  rintro e w5 ⟨rfl, hb5⟩;have q1 := q0.below hb5;have hr := q1.rows (w.heap.size + 1 + 1, 33, 2, #[.string ⟨#[]⟩, .string ⟨#[]⟩]) (by simp);have c0 : w5.cell? ⟨w.heap.size + 1 + 1, 0, none⟩ = some (.string ⟨#[]⟩) := hr.cell (i := 0) (by simp);have c1 : w5.cell? ⟨w.heap.size + 1 + 1, 1, none⟩ = some (.string ⟨#[]⟩) := hr.cell (i := 1) (by simp);have f0 := hr.frozen 0
  have f1 := hr.frozen 1)
 exact ret_rat_slot rfl 0 0 rfl rfl (ratRow0' (pairRow hr _ _)) rfl ⟨rfl, (q1.bl.setCell (p := ⟨w.heap.size + 1 + 1, 0, none⟩) (by simp only; omega) _).setCell (p := ⟨w.heap.size + 1 + 1, 1, none⟩) (by simp only; omega) _⟩
theorem bylit_err (h0 : E ≠ 0) (hck : CkE w N A c cl ch ll lh Al Ah E) :
  Calls Tryz.prog 21 #[ntV N A c, wtsV Al Ah ll lh cl ch] w fun e w' => e = .returned (.tuple #[.slice none 0 0, .slice none 0 0, .int .i64 E]) ∧ Below w.heap.size w w' := by
 have q0 := ((Bag.zero w).new #[.int .i64 N.n, .slice A N.l.length c] 24 w.heap.size 2 rfl rfl).new #[.slice Al ll cl, .slice Ah lh ch] 39 (w.heap.size + 1) 2 (by simp) rfl;have hb0 : (E == 0) = false := beq_eq_false_iff_ne.2 h0
 have hb1 : (E != 0) = true := by simp [bne, hb0]
 have HCK := zqh hck;clear hck
 go_enter Tryz.func21, Tryz.ntmps21
 go_wp2_with (
  go_at_call 35
  (with_reducible refine (HCK.out _ q0.bl).mono ?_)
  rintro e w5 ⟨rfl, hb5⟩
  have q1 := q0.below hb5)
 go_ret3
 exact ⟨rfl, q1.bl⟩
end
theorem ones_no (w : World) (n : Int) (h : n < 0 ∨ 128 < n) : Calls Tryz.prog 39 #[.int .i64 n] w fun e w' => e = .returned (.tuple #[wtsV none none 0 0 0 0, .int .i64 1]) ∧ Below w.heap.size w w' := by
 have hr := arrNew w #[.slice none 0 0, .slice none 0 0] 39 w.heap.size 2 rfl rfl;have hb := (Below.refl w.heap.size w).alloc (zqn _) (.cells #[.slice none 0 0, .slice none 0 0] 39);have r1 := hr.cell (i := 0) (by omega);have r2 := hr.cell (i := 1) (by omega);have f1 := hr.frozen 0;have f2 := hr.frozen 1
 have fin : ∀ (fn : Func) (hfn : fn.results = Tryz.f39.results) (a : Act), a.tmps.getD 2 undef = .pointer (some ⟨w.heap.size, 0, none⟩) → a.tmps.getD 3 undef = .int .i64 1 → a.defers = [] →
   bodyPost Tryz.prog fn (fun e w' => e = .returned (.tuple #[wtsV none none 0 0 0 0, .int .i64 1]) ∧ Below w.heap.size w w') .ret a (w.alloc (.cells #[.slice none 0 0, .slice none 0 0] 39)) := fun fn hfn a h2 h3 hd => by
  refine bodyPost_ret (v := .tuple #[wtsV none none 0 0 0 0, .int .i64 1]) ?_ hd ⟨rfl, hb⟩;rw [results_cell_tmp (by rw [hfn]; rfl), h2, h3];have hl := run_loadVar_row (P := Tryz.prog) _ w.heap.size 39 39 _ (0, 0) _ (rowArr hr) Tryz.underlying39 rfl (by simpa using size_wts);simp [asAddr, Result.andThen, hl]
  rfl
 go_enter Tryz.func39, Tryz.ntmps39
 by_cases h0 : n < 0
 ·have d1 : decide (n < 0) = true := decide_eq_true h0
  go_wp2_with fail
  refine fin _ rfl _ ?_ ?_ ?_ <;> rfl
 ·have d1 : decide (n < 0) = false := decide_eq_false h0;have d2 : decide (128 < n) = true := decide_eq_true (by omega)
  go_wp2_with fail
  all_goals
   refine fin _ rfl _ ?_ ?_ ?_ <;> rfl
end Go.Proofs.YtmhllppjcilllaaGreatDoor
