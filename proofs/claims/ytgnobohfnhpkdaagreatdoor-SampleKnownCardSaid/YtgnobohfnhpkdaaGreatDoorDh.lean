/- The walks of fractions: Mul, Div, join, Add, Sub, Cmp. -/
import Derived.Test.YtgnobohfnhpkdaaGreatDoorDg
import Derived.Test.YtgnobohfnhpkdaaGreatDoorBq
import Derived.WalkMore
import Derived.Deep.CutBlock
import Derived.Deep.CutRange
set_option linter.unusedSimpArgs false
set_option linter.unusedVariables false
open Go Go.RowKit Cs
namespace Go.Proofs.YtgnobohfnhpkdaaGreatDoor
theorem n8_qd (d : Nat) (h : n8 d ≤ 100000) : n8 (qd d) ≤ 100000 := by
  unfold qd
  split
  · have : n8 1 ≤ 1 := (n8_le _ _).2 (by decide)
    omega
  · exact h
theorem ratF_arr (n d : Nat) : ∀ i, i < 2 → arrF #[.string (natB n), .string (natB d)] i = ratF n d i := fun i hi => by
  have : i = 0 ∨ i = 1 := by omega
  rcases this with rfl | rfl <;> rfl
set_option maxRecDepth 100000 in
set_option maxHeartbeats 4000000 in
/-- Mul. -/
theorem qmul_any (w : World) (n d n' d' : Nat) (hn : n8 n ≤ 100000) (hd : n8 d ≤ 100000) (hn' : n8 n' ≤ 100000) (hd' : n8 d' ≤ 100000) :
    Calls Tryz.prog 82 #[ratV n d, ratV n' d'] w fun e w' => e = .returned (ratV (qn (qq n d * qq n' d')) (qq n d * qq n' d').den) ∧ Below w.heap.size w w' := by
  have hm1 := fun W => mul_any W n n' (by omega) (by omega)
  have h1 := n8_qd d hd
  have h2 := n8_qd d' hd'
  have hda := fun W => den_any W n d (by omega)
  have hdb := fun W => den_any W n' d' (by omega)
  have hm2 := fun W => mul_any W (qd d) (qd d') (by omega) (by omega)
  have b1 := n8_mul n n'
  have b2 := n8_mul (qd d) (qd d')
  have hnw := fun W => qnew_any W (n * n') (qd d * qd d') (by omega) (by omega) (Nat.mul_pos (qd_pos _) (qd_pos _))
  simp only [qq_mul] at hnw
  generalize qn (qq n d * qq n' d') = N at *
  generalize (qq n d * qq n' d').den = D at *
  generalize n * n' = M1 at *
  generalize qd d * qd d' = M2 at *
  generalize qd d = Q at *
  generalize qd d' = Q' at *
  have HM1 := Lib.hid hm1
  have HM2 := Lib.hid hm2
  have HDA := Lib.hid hda
  have HDB := Lib.hid hdb
  have HNW := Lib.hid hnw
  clear hm1 hm2 hda hdb hnw b1 b2 h1 h2 hn hd hn' hd'
  have q0 := ((((Bag.zero w).new #[.string (natB n), .string (natB d)] 74 w.heap.size 2 rfl rfl).new #[.string (natB n'), .string (natB d')] 74 (w.heap.size + 1) 2 (by simp) rfl).new #[.string ⟨#[]⟩, .string ⟨#[]⟩] 74 (w.heap.size + 1 + 1) 2 (by simp) rfl)
  go_enter Tryz.func82, Tryz.ntmps82
  go_wp2_with fail
  obtain ⟨W, hW⟩ : ∃ W, ((w.alloc (.cells #[.string (natB n), .string (natB d)] 74)).alloc (.cells #[.string (natB n'), .string (natB d')] 74)).alloc (.cells #[.string ⟨#[]⟩, .string ⟨#[]⟩] 74) = W := ⟨_, rfl⟩
  rw [hW] at q0 ⊢
  clear hW
  go_cut [5, 6] from 8 to 20 (fun p x wx => ∃ gx, p = .pointer (some ⟨gx, 0, none⟩) ∧ x = .bool true ∧ Bag w w w.heap.size ((gx, 74, 2, #[.string (natB N), .string (natB D)]) :: [(w.heap.size + 1 + 1, 74, 2, #[.string ⟨#[]⟩, .string ⟨#[]⟩]), (w.heap.size + 1, 74, 2, #[.string (natB n'), .string (natB d')]), (w.heap.size, 74, 2, #[.string (natB n), .string (natB d)])]) wx)
  case first =>
    have q6 := q0.drew
    have hz := (q0.new #[.string ⟨#[]⟩, .string ⟨#[]⟩] 74 _ 2 rfl rfl).row0.drew
    have hX0 := q0.fresh
    have m1 := q6.is (w.heap.size) 2 74 #[.string (natB n), .string (natB d)] (by simp) 0 (by decide) (.string (natB n)) rfl
    have m2 := q6.is (w.heap.size) 2 74 #[.string (natB n), .string (natB d)] (by simp) 1 (by decide) (.string (natB d)) rfl
    have m3 := q6.is (w.heap.size + 1) 2 74 #[.string (natB n'), .string (natB d')] (by simp) 0 (by decide) (.string (natB n')) rfl
    have m4 := q6.is (w.heap.size + 1) 2 74 #[.string (natB n'), .string (natB d')] (by simp) 1 (by decide) (.string (natB d')) rfl
    go_region_held3 (fun w' => w'.cell? ⟨w.heap.size, 0, none⟩ = some (.string (natB n)) ∧ w'.cell? ⟨w.heap.size, 1, none⟩ = some (.string (natB d)) ∧ w'.cell? ⟨w.heap.size + 1, 0, none⟩ = some (.string (natB n')) ∧ w'.cell? ⟨w.heap.size + 1, 1, none⟩ = some (.string (natB d')))
      (first | exact ⟨m1, m2, m3, m4⟩ | exact ⟨putFar N1.out m1, putFar N2.out m2, putFar N3.out m3, putFar N4.out m4⟩ | exact ⟨(q0.alloc _).drew.is (w.heap.size) 2 74 #[.string (natB n), .string (natB d)] (by simp) 0 (by decide) (.string (natB n)) rfl, (q0.alloc _).drew.is (w.heap.size) 2 74 #[.string (natB n), .string (natB d)] (by simp) 1 (by decide) (.string (natB d)) rfl, (q0.alloc _).drew.is (w.heap.size + 1) 2 74 #[.string (natB n'), .string (natB d')] (by simp) 0 (by decide) (.string (natB n')) rfl, (q0.alloc _).drew.is (w.heap.size + 1) 2 74 #[.string (natB n'), .string (natB d')] (by simp) 1 (by decide) (.string (natB d')) rfl⟩ | exact ⟨(q6.alloc _).is (w.heap.size) 2 74 #[.string (natB n), .string (natB d)] (by simp) 0 (by decide) (.string (natB n)) rfl, (q6.alloc _).is (w.heap.size) 2 74 #[.string (natB n), .string (natB d)] (by simp) 1 (by decide) (.string (natB d)) rfl, (q6.alloc _).is (w.heap.size + 1) 2 74 #[.string (natB n'), .string (natB d')] (by simp) 0 (by decide) (.string (natB n')) rfl, (q6.alloc _).is (w.heap.size + 1) 2 74 #[.string (natB n'), .string (natB d')] (by simp) 1 (by decide) (.string (natB d')) rfl⟩ | go_keep)
      (first
        | (go_simp
           go_at_call 80
           (with_reducible first | refine (HM1.out _).mono ?_ | refine (HM2.out _).mono ?_)
           rintro e w9 ⟨rfl, hb9⟩
           first
             | (replace q6 := q6.below hb9
                try replace hz6 := rowBelow hz6 hb9)
             | (have hz6 := rowBelow hz hb9
                have hX6 := hX0
                have N1 := Lib.hid (Ne.symm (hX6.2 (w.heap.size, 74, 2, #[.string (natB n), .string (natB d)]) (by simp)))
                have N2 := Lib.hid (Ne.symm (hX6.2 (w.heap.size, 74, 2, #[.string (natB n), .string (natB d)]) (by simp)))
                have N3 := Lib.hid (Ne.symm (hX6.2 (w.heap.size + 1, 74, 2, #[.string (natB n'), .string (natB d')]) (by simp)))
                have N4 := Lib.hid (Ne.symm (hX6.2 (w.heap.size + 1, 74, 2, #[.string (natB n'), .string (natB d')]) (by simp)))
                replace q6 := (q0.alloc _).drew.below hb9)
             | (have hX6 := q6.fresh
                have N1 := Lib.hid (Ne.symm (hX6.2 (w.heap.size, 74, 2, #[.string (natB n), .string (natB d)]) (by simp)))
                have N2 := Lib.hid (Ne.symm (hX6.2 (w.heap.size, 74, 2, #[.string (natB n), .string (natB d)]) (by simp)))
                have N3 := Lib.hid (Ne.symm (hX6.2 (w.heap.size + 1, 74, 2, #[.string (natB n'), .string (natB d')]) (by simp)))
                have N4 := Lib.hid (Ne.symm (hX6.2 (w.heap.size + 1, 74, 2, #[.string (natB n'), .string (natB d')]) (by simp)))
                have hz6 := rowBelow (arrNew _ #[.string ⟨#[]⟩, .string ⟨#[]⟩] 74 _ 2 rfl rfl) hb9
                replace q6 := (q6.alloc _).below hb9)
           have m1 := q6.is (w.heap.size) 2 74 #[.string (natB n), .string (natB d)] (by simp) 0 (by decide) (.string (natB n)) rfl
           have m2 := q6.is (w.heap.size) 2 74 #[.string (natB n), .string (natB d)] (by simp) 1 (by decide) (.string (natB d)) rfl
           have m3 := q6.is (w.heap.size + 1) 2 74 #[.string (natB n'), .string (natB d')] (by simp) 0 (by decide) (.string (natB n')) rfl
           have m4 := q6.is (w.heap.size + 1) 2 74 #[.string (natB n'), .string (natB d')] (by simp) 1 (by decide) (.string (natB d')) rfl
           try have y0 := hz6.frozen 0
           try have z0 := hz6.cell (i := 0) (by omega)
           try have y1 := hz6.frozen 1
           try have z1 := hz6.cell (i := 1) (by omega))
        | (go_simp
           go_at_call 78
           (with_reducible first | refine (HDA.out _).mono ?_ | refine (HDB.out _).mono ?_)
           rintro e w9 ⟨rfl, hb9⟩
           first
             | (replace q6 := q6.below hb9
                try replace hz6 := rowBelow hz6 hb9)
             | (have hz6 := rowBelow hz hb9
                have hX6 := hX0
                have N1 := Lib.hid (Ne.symm (hX6.2 (w.heap.size, 74, 2, #[.string (natB n), .string (natB d)]) (by simp)))
                have N2 := Lib.hid (Ne.symm (hX6.2 (w.heap.size, 74, 2, #[.string (natB n), .string (natB d)]) (by simp)))
                have N3 := Lib.hid (Ne.symm (hX6.2 (w.heap.size + 1, 74, 2, #[.string (natB n'), .string (natB d')]) (by simp)))
                have N4 := Lib.hid (Ne.symm (hX6.2 (w.heap.size + 1, 74, 2, #[.string (natB n'), .string (natB d')]) (by simp)))
                replace q6 := (q0.alloc _).drew.below hb9)
             | (have hX6 := q6.fresh
                have N1 := Lib.hid (Ne.symm (hX6.2 (w.heap.size, 74, 2, #[.string (natB n), .string (natB d)]) (by simp)))
                have N2 := Lib.hid (Ne.symm (hX6.2 (w.heap.size, 74, 2, #[.string (natB n), .string (natB d)]) (by simp)))
                have N3 := Lib.hid (Ne.symm (hX6.2 (w.heap.size + 1, 74, 2, #[.string (natB n'), .string (natB d')]) (by simp)))
                have N4 := Lib.hid (Ne.symm (hX6.2 (w.heap.size + 1, 74, 2, #[.string (natB n'), .string (natB d')]) (by simp)))
                have hz6 := rowBelow (arrNew _ #[.string ⟨#[]⟩, .string ⟨#[]⟩] 74 _ 2 rfl rfl) hb9
                replace q6 := (q6.alloc _).below hb9)
           have m1 := q6.is (w.heap.size) 2 74 #[.string (natB n), .string (natB d)] (by simp) 0 (by decide) (.string (natB n)) rfl
           have m2 := q6.is (w.heap.size) 2 74 #[.string (natB n), .string (natB d)] (by simp) 1 (by decide) (.string (natB d)) rfl
           have m3 := q6.is (w.heap.size + 1) 2 74 #[.string (natB n'), .string (natB d')] (by simp) 0 (by decide) (.string (natB n')) rfl
           have m4 := q6.is (w.heap.size + 1) 2 74 #[.string (natB n'), .string (natB d')] (by simp) 1 (by decide) (.string (natB d')) rfl
           try have y0 := hz6.frozen 0
           try have z0 := hz6.cell (i := 0) (by omega)
           try have y1 := hz6.frozen 1
           try have z1 := hz6.cell (i := 1) (by omega))
        | (go_simp
           go_at_call 72
           (with_reducible first | refine (HNW.out _).mono ?_)
           rintro e w9 ⟨rfl, hb9⟩
           first
             | (replace q6 := q6.below hb9
                try replace hz6 := rowBelow hz6 hb9)
             | (have hz6 := rowBelow hz hb9
                have hX6 := hX0
                have N1 := Lib.hid (Ne.symm (hX6.2 (w.heap.size, 74, 2, #[.string (natB n), .string (natB d)]) (by simp)))
                have N2 := Lib.hid (Ne.symm (hX6.2 (w.heap.size, 74, 2, #[.string (natB n), .string (natB d)]) (by simp)))
                have N3 := Lib.hid (Ne.symm (hX6.2 (w.heap.size + 1, 74, 2, #[.string (natB n'), .string (natB d')]) (by simp)))
                have N4 := Lib.hid (Ne.symm (hX6.2 (w.heap.size + 1, 74, 2, #[.string (natB n'), .string (natB d')]) (by simp)))
                replace q6 := (q0.alloc _).drew.below hb9)
             | (have hX6 := q6.fresh
                have N1 := Lib.hid (Ne.symm (hX6.2 (w.heap.size, 74, 2, #[.string (natB n), .string (natB d)]) (by simp)))
                have N2 := Lib.hid (Ne.symm (hX6.2 (w.heap.size, 74, 2, #[.string (natB n), .string (natB d)]) (by simp)))
                have N3 := Lib.hid (Ne.symm (hX6.2 (w.heap.size + 1, 74, 2, #[.string (natB n'), .string (natB d')]) (by simp)))
                have N4 := Lib.hid (Ne.symm (hX6.2 (w.heap.size + 1, 74, 2, #[.string (natB n'), .string (natB d')]) (by simp)))
                have hz6 := rowBelow (arrNew _ #[.string ⟨#[]⟩, .string ⟨#[]⟩] 74 _ 2 rfl rfl) hb9
                replace q6 := (q6.alloc _).below hb9)
           have m1 := q6.is (w.heap.size) 2 74 #[.string (natB n), .string (natB d)] (by simp) 0 (by decide) (.string (natB n)) rfl
           have m2 := q6.is (w.heap.size) 2 74 #[.string (natB n), .string (natB d)] (by simp) 1 (by decide) (.string (natB d)) rfl
           have m3 := q6.is (w.heap.size + 1) 2 74 #[.string (natB n'), .string (natB d')] (by simp) 0 (by decide) (.string (natB n')) rfl
           have m4 := q6.is (w.heap.size + 1) 2 74 #[.string (natB n'), .string (natB d')] (by simp) 1 (by decide) (.string (natB d')) rfl
           try have y0 := hz6.frozen 0
           try have z0 := hz6.cell (i := 0) (by omega)
           try have y1 := hz6.frozen 1
           try have z1 := hz6.cell (i := 1) (by omega)))
    all_goals
      try go_wp2
      go_meet
      case rel =>
        first
          | exact ⟨_, rfl, rfl, q6.new _ _ _ _ rfl rfl⟩
          | exact ⟨_, rfl, rfl, ((q6.other hX6.1 hX6.2 _ _).other hX6.1 hX6.2 _ _).cons (pairRow hz6 _ _)⟩
  case rest =>
    obtain ⟨gx, rfl, rfl, q3⟩ := hcut
    clear q0 HM1 HM2 HDA HDB HNW
    have x1 := q3.is0 0 (by decide) (.string (natB N)) rfl
    have x2 := q3.is0 1 (by decide) (.string (natB D)) rfl
    have hr : wc.rowIs (w.heap.size + 1 + 1) 74 2 (arrF #[.string ⟨#[]⟩, .string ⟨#[]⟩]) := q3.rows (w.heap.size + 1 + 1, 74, 2, #[.string ⟨#[]⟩, .string ⟨#[]⟩]) (by simp)
    have y1 := hr.frozen 0
    have y2 := hr.frozen 1
    have z1 : _ = some (Value.string ⟨#[]⟩) := hr.cell (i := 0) (by omega)
    have z2 : _ = some (Value.string ⟨#[]⟩) := hr.cell (i := 1) (by omega)
    have hs := (pairRow hr (.string (natB N)) (.string (natB D))).congr (ratF_arr N D)
    have hb := (q3.bl.setCell (p := ⟨w.heap.size + 1 + 1, 0, none⟩) (by simp; omega) (.string (natB N))).setCell (p := ⟨w.heap.size + 1 + 1, 1, none⟩) (by simp; omega) (.string (natB D))
    go_wp2_with fail
    exact ret_rat rfl N D rfl hs rfl ⟨rfl, hb⟩
end Go.Proofs.YtgnobohfnhpkdaaGreatDoor
