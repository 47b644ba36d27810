/- The walks of sample.bitsOf and of the closure in draw. -/
import Derived.Test.YtgnobohfnhpkdaaDoorYa
import Derived.Test.YtgnobohfnhpkdaaDoorDl
import Derived.Test.YtgnobohfnhpkdaaDoorNs
import Derived.WalkMore
import Derived.Deep.CutBlock
import Derived.Deep.CutRange
set_option linter.unusedSimpArgs false
set_option linter.unusedVariables false
open Go Go.RowKit Cs
namespace Go.Proofs.YtgnobohfnhpkdaaDoor
set_option maxRecDepth 100000 in
set_option maxHeartbeats 4000000 in
theorem bitsOf_any (w : World) (c : Nat) (hc : 0 < c) (h8 : n8 c ≤ 100000) :
    Calls Tryd.prog 15 #[natV c] w fun e w' => e = .returned (.int .i64 (nd 2 (c - 1))) ∧ Below w.heap.size w w' := by
  have hsu := fun W => sub_ge W c 1 (by omega) (by have := n8_64 (n := 1) (by decide); omega) hc
  have h9 : n8 (c - 1) ≤ 1000000 := Nat.le_trans (n8_mono (Nat.sub_le _ _)) (by omega)
  have hln := fun W => natLen_any W (c - 1) (by omega)
  generalize c - 1 = d at *
  have HSU := Lib.hid hsu
  have HLN := Lib.hid hln
  clear hsu hln h8 hc h9
  have q0 := (Bag.zero w).new #[.string (natB c)] 42 w.heap.size 1 rfl rfl
  go_enter Tryd.func15, Tryd.ntmps15
  go_wp2_with fail
  obtain ⟨W, hW⟩ : ∃ W, w.alloc (.cells #[.string (natB c)] 42) = W := ⟨_, rfl⟩
  rw [hW] at q0 ⊢
  clear hW
  go_cut [3, 4] from 6 to 10 (fun p x wx => ∃ gx, p = .pointer (some ⟨gx, 0, none⟩) ∧ x = .bool true ∧ Bag w w w.heap.size ((gx, 42, 1, #[.string (natB d)]) :: [(w.heap.size, 42, 1, #[.string (natB c)])]) wx)
  case first =>
    have q6 := q0.drew
    have hz := (q0.new #[.string ⟨#[]⟩] 42 _ 1 rfl rfl).row0.drew
    have hX0 := q0.fresh
    have m1 := q6.is (w.heap.size) 1 42 #[.string (natB c)] (by simp) 0 (by decide) (.string (natB c)) rfl
    go_region_held3 (fun w' => w'.cell? ⟨w.heap.size, 0, none⟩ = some (.string (natB c)))
      (first | exact m1 | exact (World.cell?_setCell_far _ _ _ _ N1.out).trans m1 | exact (q0.alloc _).drew.is (w.heap.size) 1 42 #[.string (natB c)] (by simp) 0 (by decide) (.string (natB c)) rfl | exact (q6.alloc _).is (w.heap.size) 1 42 #[.string (natB c)] (by simp) 0 (by decide) (.string (natB c)) rfl | go_keep)
      (first
        | (go_simp
           go_at_call 25
           (with_reducible first | refine (of_one _).mono ?_)
           rintro e w9 ⟨rfl, hb9⟩
           first
             | (replace q6 := q6.below hb9
                try replace hz6 := rowBelow hz6 hb9)
             | (have hz6 := rowBelow hz hb9
                have hX6 := hX0
                have N1 := Lib.hid (Ne.symm (hX6.2 (w.heap.size, 42, 1, #[.string (natB c)]) (by simp)))
                replace q6 := (q0.alloc _).drew.below hb9)
             | (have hX6 := q6.fresh
                have N1 := Lib.hid (Ne.symm (hX6.2 (w.heap.size, 42, 1, #[.string (natB c)]) (by simp)))
                have hz6 := rowBelow (arrNew _ #[.string ⟨#[]⟩] 42 _ 1 rfl rfl) hb9
                replace q6 := (q6.alloc _).below hb9)
           have m1 := q6.is (w.heap.size) 1 42 #[.string (natB c)] (by simp) 0 (by decide) (.string (natB c)) rfl
           try have y0 := hz6.frozen 0
           try have z0 := hz6.cell (i := 0) (by omega))
        | (go_simp
           go_at_call 24
           (with_reducible first | refine (HSU.out _).mono ?_)
           rintro e w9 ⟨rfl, hb9⟩
           first
             | (replace q6 := q6.below hb9
                try replace hz6 := rowBelow hz6 hb9)
             | (have hz6 := rowBelow hz hb9
                have hX6 := hX0
                have N1 := Lib.hid (Ne.symm (hX6.2 (w.heap.size, 42, 1, #[.string (natB c)]) (by simp)))
                replace q6 := (q0.alloc _).drew.below hb9)
             | (have hX6 := q6.fresh
                have N1 := Lib.hid (Ne.symm (hX6.2 (w.heap.size, 42, 1, #[.string (natB c)]) (by simp)))
                have hz6 := rowBelow (arrNew _ #[.string ⟨#[]⟩] 42 _ 1 rfl rfl) hb9
                replace q6 := (q6.alloc _).below hb9)
           have m1 := q6.is (w.heap.size) 1 42 #[.string (natB c)] (by simp) 0 (by decide) (.string (natB c)) rfl
           try have y0 := hz6.frozen 0
           try have z0 := hz6.cell (i := 0) (by omega)))
    all_goals
      try go_wp2
      go_meet
      case rel =>
        first
          | exact ⟨_, rfl, rfl, q6.new _ _ _ _ rfl rfl⟩
          | exact ⟨_, rfl, rfl, (q6.other hX6.1 hX6.2 _ _).cons (oneRow hz6 _)⟩
  case rest =>
    obtain ⟨gx, rfl, rfl, q3⟩ := hcut
    have x1 := q3.is0 0 (by decide) (.string (natB d)) rfl
    go_wp2_with (
      go_at_call 26
      (with_reducible refine (HLN.out _).mono ?_)
      rintro e w5 ⟨rfl, hb5⟩
      have hb := Cs.Below.trans' q3.bl hb5 q3.bl.size)
    go_ret
    exact ⟨rfl, hb⟩
end Go.Proofs.YtgnobohfnhpkdaaDoor
