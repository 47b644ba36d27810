/- The walk of the law's own check of an example. -/
import Derived.Test.YtemgfhdgpkmmaaaDoorW1
import Derived.Test.YtemgfhdgpkmmaaaDoorBg
import Derived.Deep.CutRange
import Derived.Test.YtemgfhdgpkmmaaaDoorLD
set_option linter.unusedSimpArgs false
set_option linter.unusedVariables false
open Go Go.RowKit Cs
namespace Go.Proofs.YtemgfhdgpkmmaaaDoor
theorem samp_seek : skR sampN 1 = .tuple #[.agg #[.int .u64 5, .int .u64 0], .bool true, .int .i64 0] := by
  have h : lerr sampN 1 = 0 := by decide +kernel
  have h1 : (seekN sampN 1).set = 5 := by decide +kernel
  have h2 : (seekN sampN 1).ok = true := by decide +kernel
  unfold skR skV
  rw [if_pos h, h1, h2]; rfl
theorem samp_rerr (a : Nat) (h : lerr sampN a = 0) : rerr sampN a = 0 := by
  unfold rerr
  rw [if_pos h]
  decide +kernel
theorem samp_rank : rkR sampN 1 = .tuple #[natV 2, .int .i64 0] := by
  have h : rankN sampN 1 = 2 := by decide +kernel
  unfold rkR
  rw [if_pos (samp_rerr 1 (by decide +kernel)), h]
theorem samp_at2 : atR sampN 2 = .tuple #[.agg #[.int .u64 5, .int .u64 0], .bool true, .int .i64 0] := by
  have h1 : (atN sampN 2).set = 5 := by decide +kernel
  have h2 : (atN sampN 2).ok = true := by decide +kernel
  unfold atR skV
  rw [if_pos (samp_rerr 0 (by decide +kernel)), h1, h2]; rfl
theorem samp_at4 : atR sampN 4 = .tuple #[.agg #[.int .u64 0, .int .u64 0], .bool false, .int .i64 0] := by
  have h1 : (atN sampN 4).set = 0 := by decide +kernel
  have h2 : (atN sampN 4).ok = false := by decide +kernel
  unfold atR skV
  rw [if_pos (samp_rerr 0 (by decide +kernel)), h1, h2]; rfl
set_option maxRecDepth 100000 in
set_option maxHeartbeats 2000000 in
theorem works_any (w : World) (hT : Tab w) : Calls Tryd.prog 13 #[] w fun e w' => e = .returned (.bool true) ∧ Below w.heap.size w w' := by
  have hsa := sample_any w
  have hsk : ∀ W g, NtAt W W.heap.size (some ⟨g, 0, none⟩) sampN.l → Tab W → Calls Tryd.prog 14 #[ntV sampN (some ⟨g, 0, none⟩) 7, .agg #[.int .u64 1, .int .u64 0]] W fun e w' => e = .returned (.tuple #[.agg #[.int .u64 5, .int .u64 0], .bool true, .int .i64 0]) ∧ Below W.heap.size W w' := fun W g h hT => by
    rw [← samp_seek]
    exact seek_any W sampN _ 7 1 (by decide) h (by unfold IsSet; omega) hT
  have hrk : ∀ W g, NtAt W W.heap.size (some ⟨g, 0, none⟩) sampN.l → Tab W → Calls Tryd.prog 22 #[ntV sampN (some ⟨g, 0, none⟩) 7, .agg #[.int .u64 1, .int .u64 0]] W fun e w' => e = .returned (.tuple #[natV 2, .int .i64 0]) ∧ Below W.heap.size W w' := fun W g h hT => by
    rw [← samp_rank]
    exact rank_any W sampN _ 7 1 (by decide) h (by unfold IsSet; omega) hT
  have ha2 : ∀ W g, NtAt W W.heap.size (some ⟨g, 0, none⟩) sampN.l → Tab W → Calls Tryd.prog 23 #[ntV sampN (some ⟨g, 0, none⟩) 7, natV 2] W fun e w' => e = .returned (.tuple #[.agg #[.int .u64 5, .int .u64 0], .bool true, .int .i64 0]) ∧ Below W.heap.size W w' := fun W g h hT => by
    rw [← samp_at2]
    exact at_any W sampN _ 7 2 (by decide) h (by decide +kernel) hT
  have ha4 : ∀ W g, NtAt W W.heap.size (some ⟨g, 0, none⟩) sampN.l → Tab W → Calls Tryd.prog 23 #[ntV sampN (some ⟨g, 0, none⟩) 7, natV 4] W fun e w' => e = .returned (.tuple #[.agg #[.int .u64 0, .int .u64 0], .bool false, .int .i64 0]) ∧ Below W.heap.size W w' := fun W g h hT => by
    rw [← samp_at4]
    exact at_any W sampN _ 7 4 (by decide) h (by decide +kernel) hT
  have ho2 : ∀ W, Calls Tryd.prog 20 #[.int .u64 2] W fun e w' => e = .returned (natV 2) ∧ Below W.heap.size W w' := fun W => of_any W 2 (by decide)
  have ho4 : ∀ W, Calls Tryd.prog 20 #[.int .u64 4] W fun e w' => e = .returned (natV 4) ∧ Below W.heap.size W w' := fun W => of_any W 4 (by decide)
  have HSA := Lib.hid hsa
  have HSK := Lib.hid hsk
  have HRK := Lib.hid hrk
  have HA2 := Lib.hid ha2
  have HA4 := Lib.hid ha4
  have HO2 := Lib.hid ho2
  have HO4 := Lib.hid ho4
  clear hsa hsk hrk ha2 ha4 ho2 ho4
  go_enter Tryd.func13, Tryd.ntmps13
  go_wp2_with fail
  refine HSA.out.mono ?_
  rintro e w1 ⟨g, rfl, hnt, hb1⟩
  have hT1 := hT.below hb1
  have q1 := (Bag.start hb1).new #[.int .i64 sampN.n, .slice (some ⟨g, 0, none⟩) sampN.l.length 7] 24 w1.heap.size 2 rfl rfl
  have HNT := Lib.hid (fun W (hb : Below w1.heap.size w1 W) => (hnt.below hb).more hb.size)
  have HTB := Lib.hid (fun W (hb : Below w1.heap.size w1 W) => hT1.below hb)
  clear hnt hT1
  have n1 := q1.is0 0 (by decide) (.int .i64 sampN.n) rfl
  have n2 := q1.is0 1 (by decide) (.slice (some ⟨g, 0, none⟩) sampN.l.length 7) rfl
  go_wp2_with fail
  refine (HSK.out _ g (HNT.out _ q1.base) (HTB.out _ q1.base)).mono ?_
  rintro e w2 ⟨rfl, hb2⟩
  have q2 := q1.below hb2
  have n3 := q2.is0 0 (by decide) (.int .i64 sampN.n) rfl
  have n4 := q2.is0 1 (by decide) (.slice (some ⟨g, 0, none⟩) sampN.l.length 7) rfl
  have q2l := q2.lt0
  have q3 := q2.new #[.int .u64 5, .int .u64 0] 27 w2.heap.size 2 rfl rfl
  have n5 := q3.tail.is0 0 (by decide) (.int .i64 sampN.n) rfl
  have n6 := q3.tail.is0 1 (by decide) (.slice (some ⟨g, 0, none⟩) sampN.l.length 7) rfl
  go_wp2_with fail
  refine (HRK.out _ g (HNT.out _ q3.base) (HTB.out _ q3.base)).mono ?_
  rintro e w4 ⟨rfl, hb4⟩
  have q4 := q3.below hb4
  have q5 := q4.new #[.string (natB 2)] 43 w4.heap.size 1 rfl rfl
  go_wp2_with fail
  clear n1 n2 n3 n4 n5 n6
  generalize w4.alloc (.cells #[.string (natB 2)] 43) = W5 at q5 ⊢
  go_cut [7, 8, 9] from 27 to 33 (fun p x y wx => ∃ X, p = .pointer (some ⟨X, 0, none⟩) ∧ x = .bool true ∧ y = .int .i64 0 ∧ Bag w w1 w1.heap.size ((X, 27, 2, #[.int .u64 5, .int .u64 0]) :: [(w4.heap.size, 43, 1, #[.string (natB 2)]), (w2.heap.size, 27, 2, #[.int .u64 5, .int .u64 0]), (w1.heap.size, 24, 2, #[.int .i64 sampN.n, .slice (some ⟨g, 0, none⟩) sampN.l.length 7])]) wx)
  case first =>
    have q6 := q5.drew
    have hz := (q5.new #[.int .u64 0, .int .u64 0] 27 _ 2 rfl rfl).row0.drew
    have hX0 := q5.fresh
    have m1 := q6.tail.tail.is0 0 (by decide) (.int .i64 sampN.n) rfl
    have m2 := q6.tail.tail.is0 1 (by decide) (.slice (some ⟨g, 0, none⟩) sampN.l.length 7) rfl
    go_region_held3 (fun w' => w'.cell? ⟨w1.heap.size, 0, none⟩ = some (.int .i64 sampN.n) ∧ w'.cell? ⟨w1.heap.size, 1, none⟩ = some (.slice (some ⟨g, 0, none⟩) sampN.l.length 7))
      (first | exact ⟨m1, m2⟩ | exact ⟨putFar N1.out m1, putFar N1.out m2⟩ | exact ⟨(q5.alloc _).drew.tail.tail.is0 0 (by decide) (.int .i64 sampN.n) rfl, (q5.alloc _).drew.tail.tail.is0 1 (by decide) (.slice (some ⟨g, 0, none⟩) sampN.l.length 7) rfl⟩ | exact ⟨(q6.alloc _).tail.tail.is0 0 (by decide) (.int .i64 sampN.n) rfl, (q6.alloc _).tail.tail.is0 1 (by decide) (.slice (some ⟨g, 0, none⟩) sampN.l.length 7) rfl⟩ | go_keep)
      (first
        | (go_simp
           go_at_call 20
           (with_reducible first | refine (HO2.out _).mono ?_)
           rintro e w6 ⟨rfl, hb6⟩
           first
             | (replace q6 := q6.below hb6
                try replace hz6 := rowBelow hz6 hb6)
             | (have hz6 := rowBelow hz hb6
                have hX6 := hX0
                have N1 := Lib.hid (Ne.symm (hX6.2 (w1.heap.size, 24, 2, #[.int .i64 sampN.n, .slice (some ⟨g, 0, none⟩) sampN.l.length 7]) (by simp)))
                replace q6 := (q5.alloc _).drew.below hb6)
             | (have hX6 := q6.fresh
                have N1 := Lib.hid (Ne.symm (hX6.2 (w1.heap.size, 24, 2, #[.int .i64 sampN.n, .slice (some ⟨g, 0, none⟩) sampN.l.length 7]) (by simp)))
                have hz6 := rowBelow (arrNew _ #[.int .u64 0, .int .u64 0] 27 _ 2 rfl rfl) hb6
                replace q6 := (q6.alloc _).below hb6)
           have m1 := q6.tail.tail.is0 0 (by decide) (.int .i64 sampN.n) rfl
           have m2 := q6.tail.tail.is0 1 (by decide) (.slice (some ⟨g, 0, none⟩) sampN.l.length 7) rfl
           try have z1 := hz6.frozen 0
           try have z2 := hz6.frozen 1
           try have z3 := hz6.cell (i := 0) (by omega)
           try have z4 := hz6.cell (i := 1) (by omega))
        | (go_simp
           go_at_call 23
           (with_reducible first | refine (HA2.out _ g (HNT.out _ q6.base) (HTB.out _ q6.base)).mono ?_ | refine (HA2.out _ g (HNT.out _ (q5.alloc _).drew.base) (HTB.out _ (q5.alloc _).drew.base)).mono ?_ | refine (HA2.out _ g (HNT.out _ (q6.alloc _).base) (HTB.out _ (q6.alloc _).base)).mono ?_)
           rintro e w6 ⟨rfl, hb6⟩
           first
             | (replace q6 := q6.below hb6
                try replace hz6 := rowBelow hz6 hb6)
             | (have hz6 := rowBelow hz hb6
                have hX6 := hX0
                have N1 := Lib.hid (Ne.symm (hX6.2 (w1.heap.size, 24, 2, #[.int .i64 sampN.n, .slice (some ⟨g, 0, none⟩) sampN.l.length 7]) (by simp)))
                replace q6 := (q5.alloc _).drew.below hb6)
             | (have hX6 := q6.fresh
                have N1 := Lib.hid (Ne.symm (hX6.2 (w1.heap.size, 24, 2, #[.int .i64 sampN.n, .slice (some ⟨g, 0, none⟩) sampN.l.length 7]) (by simp)))
                have hz6 := rowBelow (arrNew _ #[.int .u64 0, .int .u64 0] 27 _ 2 rfl rfl) hb6
                replace q6 := (q6.alloc _).below hb6)
           have m1 := q6.tail.tail.is0 0 (by decide) (.int .i64 sampN.n) rfl
           have m2 := q6.tail.tail.is0 1 (by decide) (.slice (some ⟨g, 0, none⟩) sampN.l.length 7) rfl
           try have z1 := hz6.frozen 0
           try have z2 := hz6.frozen 1
           try have z3 := hz6.cell (i := 0) (by omega)
           try have z4 := hz6.cell (i := 1) (by omega)))
    all_goals
      try go_wp2
      go_meet
      case rel =>
        first
          | exact ⟨_, rfl, rfl, rfl, q6.new _ _ _ _ rfl rfl⟩
          | exact ⟨_, rfl, rfl, rfl, ((q6.other hX6.1 hX6.2 _ _).other hX6.1 hX6.2 _ _).cons (pairRow hz6 _ _)⟩
  case rest =>
    obtain ⟨B7, rfl, rfl, rfl, q5n⟩ := hcut
    go_wp2_with fail
    go_cut [10, 11, 12] from 34 to 40 (fun p x y wx => ∃ X, p = .pointer (some ⟨X, 0, none⟩) ∧ x = .bool false ∧ y = .int .i64 0 ∧ Bag w w1 w1.heap.size ((X, 27, 2, #[.int .u64 0, .int .u64 0]) :: [(B7, 27, 2, #[.int .u64 5, .int .u64 0]), (w4.heap.size, 43, 1, #[.string (natB 2)]), (w2.heap.size, 27, 2, #[.int .u64 5, .int .u64 0]), (w1.heap.size, 24, 2, #[.int .i64 sampN.n, .slice (some ⟨g, 0, none⟩) sampN.l.length 7])]) wx)
    case first =>
      have q6 := q5n.drew
      have hz := (q5n.new #[.int .u64 0, .int .u64 0] 27 _ 2 rfl rfl).row0.drew
      have hX0 := q5n.fresh
      have m1 := q6.tail.tail.tail.is0 0 (by decide) (.int .i64 sampN.n) rfl
      have m2 := q6.tail.tail.tail.is0 1 (by decide) (.slice (some ⟨g, 0, none⟩) sampN.l.length 7) rfl
      go_region_held3 (fun w' => w'.cell? ⟨w1.heap.size, 0, none⟩ = some (.int .i64 sampN.n) ∧ w'.cell? ⟨w1.heap.size, 1, none⟩ = some (.slice (some ⟨g, 0, none⟩) sampN.l.length 7))
        (first | exact ⟨m1, m2⟩ | exact ⟨putFar N1.out m1, putFar N1.out m2⟩ | exact ⟨(q5n.alloc _).drew.tail.tail.tail.is0 0 (by decide) (.int .i64 sampN.n) rfl, (q5n.alloc _).drew.tail.tail.tail.is0 1 (by decide) (.slice (some ⟨g, 0, none⟩) sampN.l.length 7) rfl⟩ | exact ⟨(q6.alloc _).tail.tail.tail.is0 0 (by decide) (.int .i64 sampN.n) rfl, (q6.alloc _).tail.tail.tail.is0 1 (by decide) (.slice (some ⟨g, 0, none⟩) sampN.l.length 7) rfl⟩ | go_keep)
        (first
          | (go_simp
             go_at_call 20
             (with_reducible first | refine (HO4.out _).mono ?_)
             rintro e w6 ⟨rfl, hb6⟩
             first
               | (replace q6 := q6.below hb6
                  try replace hz6 := rowBelow hz6 hb6)
               | (have hz6 := rowBelow hz hb6
                  have hX6 := hX0
                  have N1 := Lib.hid (Ne.symm (hX6.2 (w1.heap.size, 24, 2, #[.int .i64 sampN.n, .slice (some ⟨g, 0, none⟩) sampN.l.length 7]) (by simp)))
                  replace q6 := (q5n.alloc _).drew.below hb6)
               | (have hX6 := q6.fresh
                  have N1 := Lib.hid (Ne.symm (hX6.2 (w1.heap.size, 24, 2, #[.int .i64 sampN.n, .slice (some ⟨g, 0, none⟩) sampN.l.length 7]) (by simp)))
                  have hz6 := rowBelow (arrNew _ #[.int .u64 0, .int .u64 0] 27 _ 2 rfl rfl) hb6
                  replace q6 := (q6.alloc _).below hb6)
             have m1 := q6.tail.tail.tail.is0 0 (by decide) (.int .i64 sampN.n) rfl
             have m2 := q6.tail.tail.tail.is0 1 (by decide) (.slice (some ⟨g, 0, none⟩) sampN.l.length 7) rfl
             try have z1 := hz6.frozen 0
             try have z2 := hz6.frozen 1
             try have z3 := hz6.cell (i := 0) (by omega)
             try have z4 := hz6.cell (i := 1) (by omega))
          | (go_simp
             go_at_call 23
             (with_reducible first | refine (HA4.out _ g (HNT.out _ q6.base) (HTB.out _ q6.base)).mono ?_ | refine (HA4.out _ g (HNT.out _ (q5n.alloc _).drew.base) (HTB.out _ (q5n.alloc _).drew.base)).mono ?_ | refine (HA4.out _ g (HNT.out _ (q6.alloc _).base) (HTB.out _ (q6.alloc _).base)).mono ?_)
             rintro e w6 ⟨rfl, hb6⟩
             first
               | (replace q6 := q6.below hb6
                  try replace hz6 := rowBelow hz6 hb6)
               | (have hz6 := rowBelow hz hb6
                  have hX6 := hX0
                  have N1 := Lib.hid (Ne.symm (hX6.2 (w1.heap.size, 24, 2, #[.int .i64 sampN.n, .slice (some ⟨g, 0, none⟩) sampN.l.length 7]) (by simp)))
                  replace q6 := (q5n.alloc _).drew.below hb6)
               | (have hX6 := q6.fresh
                  have N1 := Lib.hid (Ne.symm (hX6.2 (w1.heap.size, 24, 2, #[.int .i64 sampN.n, .slice (some ⟨g, 0, none⟩) sampN.l.length 7]) (by simp)))
                  have hz6 := rowBelow (arrNew _ #[.int .u64 0, .int .u64 0] 27 _ 2 rfl rfl) hb6
                  replace q6 := (q6.alloc _).below hb6)
             have m1 := q6.tail.tail.tail.is0 0 (by decide) (.int .i64 sampN.n) rfl
             have m2 := q6.tail.tail.tail.is0 1 (by decide) (.slice (some ⟨g, 0, none⟩) sampN.l.length 7) rfl
             try have z1 := hz6.frozen 0
             try have z2 := hz6.frozen 1
             try have z3 := hz6.cell (i := 0) (by omega)
             try have z4 := hz6.cell (i := 1) (by omega)))
      all_goals
        try go_wp2
        go_meet
        case rel =>
          first
            | exact ⟨_, rfl, rfl, rfl, q6.new _ _ _ _ rfl rfl⟩
            | exact ⟨_, rfl, rfl, rfl, ((q6.other hX6.1 hX6.2 _ _).other hX6.1 hX6.2 _ _).cons (pairRow hz6 _ _)⟩
    case rest =>
      obtain ⟨BA, rfl, rfl, rfl, q5nn⟩ := hcut
      have he5 : ∀ w, (Op.equalIn 10000 27 (.agg #[.int .u64 5, .int .u64 0]) (.agg #[.int .u64 5, .int .u64 0])).run Tryd.prog w = .ok true w := fun w => by rw [eq_set]; rfl
      have hen : ∀ w, (Op.equalIn 10000 43 (.agg #[.string (natB 2)]) (.agg #[.string (natB 2)])).run Tryd.prog w = .ok true w := fun w => (eq_nats 2 2 w).trans (by rw [decide_eq_true rfl])
      go_wp2_with fail
      have q6 := q5nn.drew
      have k1 := q6.is w2.heap.size 2 27 #[.int .u64 5, .int .u64 0] (by simp) 0 (by decide) (.int .u64 5) rfl
      have k2 := q6.is w2.heap.size 2 27 #[.int .u64 5, .int .u64 0] (by simp) 1 (by decide) (.int .u64 0) rfl
      have k3 := q6.is w4.heap.size 1 43 #[.string (natB 2)] (by simp) 0 (by decide) (.string (natB 2)) rfl
      have k4 := q6.is B7 2 27 #[.int .u64 5, .int .u64 0] (by simp) 0 (by decide) (.int .u64 5) rfl
      have k5 := q6.is B7 2 27 #[.int .u64 5, .int .u64 0] (by simp) 1 (by decide) (.int .u64 0) rfl
      refine wp_region_heldE (fun w' => w'.cell? ⟨w2.heap.size, 0, none⟩ = some (Value.int .u64 5) ∧ w'.cell? ⟨w2.heap.size, 1, none⟩ = some (Value.int .u64 0) ∧ w'.cell? ⟨w4.heap.size, 0, none⟩ = some (Value.string (natB 2)) ∧ w'.cell? ⟨B7, 0, none⟩ = some (Value.int .u64 5) ∧ w'.cell? ⟨B7, 1, none⟩ = some (Value.int .u64 0)) 35 (by kernel_rfl) ⟨k1, k2, k3, k4, k5⟩ (fun hS => ?_)
      refine wpAnyE_take (i := 0) (v := ?_) hS (by kernel_rfl) rfl (by kernel_rfl) (by kernel_rfl) (fun _ _ _ h => h) (Or.inl ⟨by rfl, ?_⟩) ?_
      rotate_left
      · (intro w hSw; go_simp; try with_reducible rfl)
      try simp only [Act.put, List.getElem_toArray, List.getElem_cons_succ, List.getElem_cons_zero, List.setIfInBounds_toArray, List.set_cons_zero, List.set_cons_succ]
      refine wpAnyE_take (i := 1) (v := ?_) hS (by kernel_rfl) rfl (by kernel_rfl) (by kernel_rfl) (fun _ _ _ h => h) (Or.inl ⟨by rfl, ?_⟩) ?_
      rotate_left
      · (intro w hSw; go_simp; try with_reducible rfl)
      try simp only [Act.put, List.getElem_toArray, List.getElem_cons_succ, List.getElem_cons_zero, List.setIfInBounds_toArray, List.set_cons_zero, List.set_cons_succ]
      refine wpAnyE_take (i := 2) (v := ?_) hS (by kernel_rfl) rfl (by kernel_rfl) (by kernel_rfl) (fun _ _ _ h => h) (Or.inl ⟨by rfl, ?_⟩) ?_
      rotate_left
      · (intro w hSw; go_simp; try with_reducible rfl)
      try simp only [Act.put, List.getElem_toArray, List.getElem_cons_succ, List.getElem_cons_zero, List.setIfInBounds_toArray, List.set_cons_zero, List.set_cons_succ]
      refine wpAnyE_take (i := 3) (v := ?_) hS (by kernel_rfl) rfl (by kernel_rfl) (by kernel_rfl) (fun _ _ _ h => h) (Or.inl ⟨by rfl, ?_⟩) ?_
      rotate_left
      · (intro w hSw; go_simp; try with_reducible rfl)
      try simp only [Act.put, List.getElem_toArray, List.getElem_cons_succ, List.getElem_cons_zero, List.setIfInBounds_toArray, List.set_cons_zero, List.set_cons_succ]
      refine wpAnyE_take (i := 4) (v := ?_) hS (by kernel_rfl) rfl (by kernel_rfl) (by kernel_rfl) (fun _ _ _ h => h) (Or.inl ⟨by rfl, ?_⟩) ?_
      rotate_left
      · (intro w hSw; go_simp; try with_reducible rfl)
      try simp only [Act.put, List.getElem_toArray, List.getElem_cons_succ, List.getElem_cons_zero, List.setIfInBounds_toArray, List.set_cons_zero, List.set_cons_succ]
      refine wpAnyE_take (i := 5) (v := ?_) hS (by kernel_rfl) rfl (by kernel_rfl) (by kernel_rfl) (fun _ _ _ h => h) (Or.inl ⟨by rfl, ?_⟩) ?_
      rotate_left
      · (intro w hSw; go_simp; try with_reducible rfl)
      try simp only [Act.put, List.getElem_toArray, List.getElem_cons_succ, List.getElem_cons_zero, List.setIfInBounds_toArray, List.set_cons_zero, List.set_cons_succ]
      refine wpAnyE_take (i := 6) (v := ?_) hS (by kernel_rfl) rfl (by kernel_rfl) (by kernel_rfl) (fun _ _ _ h => h) (Or.inl ⟨by rfl, ?_⟩) ?_
      rotate_left
      · (intro w hSw; go_simp; try with_reducible rfl)
      try simp only [Act.put, List.getElem_toArray, List.getElem_cons_succ, List.getElem_cons_zero, List.setIfInBounds_toArray, List.set_cons_zero, List.set_cons_succ]
      refine wpAnyE_take (i := 7) (v := ?_) hS (by kernel_rfl) rfl (by kernel_rfl) (by kernel_rfl) (fun _ _ _ h => h) (Or.inl ⟨by rfl, ?_⟩) ?_
      rotate_left
      · (intro w hSw; go_simp; try with_reducible rfl)
      try simp only [Act.put, List.getElem_toArray, List.getElem_cons_succ, List.getElem_cons_zero, List.setIfInBounds_toArray, List.set_cons_zero, List.set_cons_succ]
      refine wpAnyE_take (i := 8) (v := ?_) hS (by kernel_rfl) rfl (by kernel_rfl) (by kernel_rfl) (fun _ _ _ h => h) (Or.inl ⟨by rfl, ?_⟩) ?_
      rotate_left
      · (intro w hSw; go_simp; try with_reducible rfl)
      try simp only [Act.put, List.getElem_toArray, List.getElem_cons_succ, List.getElem_cons_zero, List.setIfInBounds_toArray, List.set_cons_zero, List.set_cons_succ]
      refine wpAnyE_take (i := 9) (v := ?_) hS (by kernel_rfl) rfl (by kernel_rfl) (by kernel_rfl) (fun _ _ _ h => h) (Or.inl ⟨by rfl, ?_⟩) ?_
      rotate_left
      · (intro w hSw; go_simp; try with_reducible rfl)
      try simp only [Act.put, List.getElem_toArray, List.getElem_cons_succ, List.getElem_cons_zero, List.setIfInBounds_toArray, List.set_cons_zero, List.set_cons_succ]
      refine wpAnyE_take (i := 10) (v := ?_) hS (by kernel_rfl) rfl (by kernel_rfl) (by kernel_rfl) (fun _ _ _ h => h) (Or.inl ⟨by rfl, ?_⟩) ?_
      rotate_left
      · (intro w hSw; go_simp; try with_reducible rfl)
      try simp only [Act.put, List.getElem_toArray, List.getElem_cons_succ, List.getElem_cons_zero, List.setIfInBounds_toArray, List.set_cons_zero, List.set_cons_succ]
      refine wpAnyE_take (i := 11) (v := ?_) hS (by kernel_rfl) rfl (by kernel_rfl) (by kernel_rfl) (fun _ _ _ h => h) (Or.inl ⟨by rfl, ?_⟩) ?_
      rotate_left
      · (intro w hSw; go_simp; try with_reducible rfl)
      try simp only [Act.put, List.getElem_toArray, List.getElem_cons_succ, List.getElem_cons_zero, List.setIfInBounds_toArray, List.set_cons_zero, List.set_cons_succ]
      refine wpAnyE_one 12 (by kernel_rfl) rfl (fun K hK => ?_)
      go_simp
      go_at_call 20
      (with_reducible refine (HO2.out _).mono ?_)
      rintro e w6 ⟨rfl, hb6⟩
      replace q6 := q6.below hb6
      have k1 := q6.is w2.heap.size 2 27 #[.int .u64 5, .int .u64 0] (by simp) 0 (by decide) (.int .u64 5) rfl
      have k2 := q6.is w2.heap.size 2 27 #[.int .u64 5, .int .u64 0] (by simp) 1 (by decide) (.int .u64 0) rfl
      have k3 := q6.is w4.heap.size 1 43 #[.string (natB 2)] (by simp) 0 (by decide) (.string (natB 2)) rfl
      have k4 := q6.is B7 2 27 #[.int .u64 5, .int .u64 0] (by simp) 0 (by decide) (.int .u64 5) rfl
      have k5 := q6.is B7 2 27 #[.int .u64 5, .int .u64 0] (by simp) 1 (by decide) (.int .u64 0) rfl
      refine hK.out _ _ (fun _ => ⟨k1, k2, k3, k4, k5⟩) (fun hS => ?_)
      replace hS := hS (by decide)
      clear hK K
      try simp only [Act.put, List.getElem_toArray, List.getElem_cons_succ, List.getElem_cons_zero, List.setIfInBounds_toArray, List.set_cons_zero, List.set_cons_succ]
      refine wpAnyE_take (i := 13) (v := ?_) hS (by kernel_rfl) rfl (by kernel_rfl) (by kernel_rfl) (fun _ _ _ h => h) (Or.inl ⟨by rfl, ?_⟩) ?_
      rotate_left
      · (intro w hSw; go_simp; try with_reducible rfl)
      try simp only [Act.put, List.getElem_toArray, List.getElem_cons_succ, List.getElem_cons_zero, List.setIfInBounds_toArray, List.set_cons_zero, List.set_cons_succ]
      refine wpAnyE_take (i := 14) (v := ?_) hS (by kernel_rfl) rfl (by kernel_rfl) (by kernel_rfl) (fun _ _ _ h => h) (Or.inl ⟨by rfl, ?_⟩) ?_
      rotate_left
      · (intro w hSw; go_simp; try with_reducible rfl)
      try simp only [Act.put, List.getElem_toArray, List.getElem_cons_succ, List.getElem_cons_zero, List.setIfInBounds_toArray, List.set_cons_zero, List.set_cons_succ]
      refine wpAnyE_take (i := 15) (v := ?_) hS (by kernel_rfl) rfl (by kernel_rfl) (by kernel_rfl) (fun _ _ _ h => h) (Or.inl ⟨by rfl, ?_⟩) ?_
      rotate_left
      · (intro w hSw; go_simp; try with_reducible rfl)
      try simp only [Act.put, List.getElem_toArray, List.getElem_cons_succ, List.getElem_cons_zero, List.setIfInBounds_toArray, List.set_cons_zero, List.set_cons_succ]
      refine wpAnyE_take (i := 16) (v := ?_) hS (by kernel_rfl) rfl (by kernel_rfl) (by kernel_rfl) (fun _ _ _ h => h) (Or.inl ⟨by rfl, ?_⟩) ?_
      rotate_left
      · (intro w hSw; go_simp; try with_reducible rfl)
      try simp only [Act.put, List.getElem_toArray, List.getElem_cons_succ, List.getElem_cons_zero, List.setIfInBounds_toArray, List.set_cons_zero, List.set_cons_succ]
      refine wpAnyE_take (i := 17) (v := ?_) hS (by kernel_rfl) rfl (by kernel_rfl) (by kernel_rfl) (fun _ _ _ h => h) (Or.inl ⟨by rfl, ?_⟩) ?_
      rotate_left
      · (intro w hSw; go_simp; try with_reducible rfl)
      try simp only [Act.put, List.getElem_toArray, List.getElem_cons_succ, List.getElem_cons_zero, List.setIfInBounds_toArray, List.set_cons_zero, List.set_cons_succ]
      refine wpAnyE_take (i := 18) (v := ?_) hS (by kernel_rfl) rfl (by kernel_rfl) (by kernel_rfl) (fun _ _ _ h => h) (Or.inl ⟨by rfl, ?_⟩) ?_
      rotate_left
      · (intro w hSw; go_simp; try with_reducible rfl)
      try simp only [Act.put, List.getElem_toArray, List.getElem_cons_succ, List.getElem_cons_zero, List.setIfInBounds_toArray, List.set_cons_zero, List.set_cons_succ]
      refine wpAnyE_take (i := 19) (v := ?_) hS (by kernel_rfl) rfl (by kernel_rfl) (by kernel_rfl) (fun _ _ _ h => h) (Or.inl ⟨by rfl, ?_⟩) ?_
      rotate_left
      · (intro w hSw; go_simp; try with_reducible rfl)
      try simp only [Act.put, List.getElem_toArray, List.getElem_cons_succ, List.getElem_cons_zero, List.setIfInBounds_toArray, List.set_cons_zero, List.set_cons_succ]
      refine wpAnyE_take (i := 20) (v := ?_) hS (by kernel_rfl) rfl (by kernel_rfl) (by kernel_rfl) (fun _ _ _ h => h) (Or.inl ⟨by rfl, ?_⟩) ?_
      rotate_left
      · (intro w hSw; go_simp; try with_reducible rfl)
      try simp only [Act.put, List.getElem_toArray, List.getElem_cons_succ, List.getElem_cons_zero, List.setIfInBounds_toArray, List.set_cons_zero, List.set_cons_succ]
      refine wpAnyE_take (i := 21) (v := ?_) hS (by kernel_rfl) rfl (by kernel_rfl) (by kernel_rfl) (fun _ _ _ h => h) (Or.inl ⟨by rfl, ?_⟩) ?_
      rotate_left
      · (intro w hSw; go_simp; try with_reducible rfl)
      try simp only [Act.put, List.getElem_toArray, List.getElem_cons_succ, List.getElem_cons_zero, List.setIfInBounds_toArray, List.set_cons_zero, List.set_cons_succ]
      refine wpAnyE_take (i := 22) (v := ?_) hS (by kernel_rfl) rfl (by kernel_rfl) (by kernel_rfl) (fun _ _ _ h => h) (Or.inl ⟨by rfl, ?_⟩) ?_
      rotate_left
      · (intro w hSw; go_simp; try with_reducible rfl)
      try simp only [Act.put, List.getElem_toArray, List.getElem_cons_succ, List.getElem_cons_zero, List.setIfInBounds_toArray, List.set_cons_zero, List.set_cons_succ]
      refine wpAnyE_take (i := 23) (v := ?_) hS (by kernel_rfl) rfl (by kernel_rfl) (by kernel_rfl) (fun _ _ _ h => h) (Or.inl ⟨by rfl, ?_⟩) ?_
      rotate_left
      · (intro w hSw; go_simp; try with_reducible rfl)
      try simp only [Act.put, List.getElem_toArray, List.getElem_cons_succ, List.getElem_cons_zero, List.setIfInBounds_toArray, List.set_cons_zero, List.set_cons_succ]
      refine wpAnyE_take (i := 24) (v := ?_) hS (by kernel_rfl) rfl (by kernel_rfl) (by kernel_rfl) (fun _ _ _ h => h) (Or.inl ⟨by rfl, ?_⟩) ?_
      rotate_left
      · (intro w hSw; go_simp; try with_reducible rfl)
      try simp only [Act.put, List.getElem_toArray, List.getElem_cons_succ, List.getElem_cons_zero, List.setIfInBounds_toArray, List.set_cons_zero, List.set_cons_succ]
      refine wpAnyE_take (i := 25) (v := ?_) hS (by kernel_rfl) rfl (by kernel_rfl) (by kernel_rfl) (fun _ _ _ h => h) (Or.inl ⟨by rfl, ?_⟩) ?_
      rotate_left
      · (intro w hSw; go_simp; try with_reducible rfl)
      try simp only [Act.put, List.getElem_toArray, List.getElem_cons_succ, List.getElem_cons_zero, List.setIfInBounds_toArray, List.set_cons_zero, List.set_cons_succ]
      refine wpAnyE_take (i := 26) (v := ?_) hS (by kernel_rfl) rfl (by kernel_rfl) (by kernel_rfl) (fun _ _ _ h => h) (Or.inl ⟨by rfl, ?_⟩) ?_
      rotate_left
      · (intro w hSw; go_simp; try with_reducible rfl)
      try simp only [Act.put, List.getElem_toArray, List.getElem_cons_succ, List.getElem_cons_zero, List.setIfInBounds_toArray, List.set_cons_zero, List.set_cons_succ]
      refine wpAnyE_take (i := 27) (v := ?_) hS (by kernel_rfl) rfl (by kernel_rfl) (by kernel_rfl) (fun _ _ _ h => h) (Or.inl ⟨by rfl, ?_⟩) ?_
      rotate_left
      · (intro w hSw; go_simp; try with_reducible rfl)
      try simp only [Act.put, List.getElem_toArray, List.getElem_cons_succ, List.getElem_cons_zero, List.setIfInBounds_toArray, List.set_cons_zero, List.set_cons_succ]
      refine wpAnyE_take (i := 28) (v := ?_) hS (by kernel_rfl) rfl (by kernel_rfl) (by kernel_rfl) (fun _ _ _ h => h) (Or.inl ⟨by rfl, ?_⟩) ?_
      rotate_left
      · (intro w hSw; go_simp; try with_reducible rfl)
      try simp only [Act.put, List.getElem_toArray, List.getElem_cons_succ, List.getElem_cons_zero, List.setIfInBounds_toArray, List.set_cons_zero, List.set_cons_succ]
      refine wpAnyE_take (i := 29) (v := ?_) hS (by kernel_rfl) rfl (by kernel_rfl) (by kernel_rfl) (fun _ _ _ h => h) (Or.inl ⟨by rfl, ?_⟩) ?_
      rotate_left
      · (intro w hSw; go_simp; try with_reducible rfl)
      try simp only [Act.put, List.getElem_toArray, List.getElem_cons_succ, List.getElem_cons_zero, List.setIfInBounds_toArray, List.set_cons_zero, List.set_cons_succ]
      refine wpAnyE_take (i := 30) (v := ?_) hS (by kernel_rfl) rfl (by kernel_rfl) (by kernel_rfl) (fun _ _ _ h => h) (Or.inl ⟨by rfl, ?_⟩) ?_
      rotate_left
      · (intro w hSw; go_simp; try with_reducible rfl)
      try simp only [Act.put, List.getElem_toArray, List.getElem_cons_succ, List.getElem_cons_zero, List.setIfInBounds_toArray, List.set_cons_zero, List.set_cons_succ]
      refine wpAnyE_take (i := 31) (v := ?_) hS (by kernel_rfl) rfl (by kernel_rfl) (by kernel_rfl) (fun _ _ _ h => h) (Or.inl ⟨by rfl, ?_⟩) ?_
      rotate_left
      · (intro w hSw; go_simp; try with_reducible rfl)
      try simp only [Act.put, List.getElem_toArray, List.getElem_cons_succ, List.getElem_cons_zero, List.setIfInBounds_toArray, List.set_cons_zero, List.set_cons_succ]
      refine wpAnyE_take (i := 32) (v := ?_) hS (by kernel_rfl) rfl (by kernel_rfl) (by kernel_rfl) (fun _ _ _ h => h) (Or.inl ⟨by rfl, ?_⟩) ?_
      rotate_left
      · (intro w hSw; go_simp; try with_reducible rfl)
      try simp only [Act.put, List.getElem_toArray, List.getElem_cons_succ, List.getElem_cons_zero, List.setIfInBounds_toArray, List.set_cons_zero, List.set_cons_succ]
      refine wpAnyE_take (i := 33) (v := ?_) hS (by kernel_rfl) rfl (by kernel_rfl) (by kernel_rfl) (fun _ _ _ h => h) (Or.inl ⟨by rfl, ?_⟩) ?_
      rotate_left
      · (intro w hSw; go_simp; try with_reducible rfl)
      try simp only [Act.put, List.getElem_toArray, List.getElem_cons_succ, List.getElem_cons_zero, List.setIfInBounds_toArray, List.set_cons_zero, List.set_cons_succ]
      refine wpAnyE_take (i := 34) (v := ?_) hS (by kernel_rfl) rfl (by kernel_rfl) (by kernel_rfl) (fun _ _ _ h => h) (Or.inl ⟨by rfl, ?_⟩) ?_
      rotate_left
      · (intro w hSw; go_simp; try with_reducible rfl)
      try simp only [Act.put, List.getElem_toArray, List.getElem_cons_succ, List.getElem_cons_zero, List.setIfInBounds_toArray, List.set_cons_zero, List.set_cons_succ]
      refine wpAnyE_one 35 (by kernel_rfl) rfl (fun K hK => ?_)
      go_simp
      refine hK.out _ _ (fun h => absurd rfl h) (fun _ => ?_)
      clear hK K
      refine wpAnyE_done (by kernel_rfl) ?_ _
      go_wp2
      go_ret
      exact ⟨rfl, q6.bl⟩
end Go.Proofs.YtemgfhdgpkmmaaaDoor
