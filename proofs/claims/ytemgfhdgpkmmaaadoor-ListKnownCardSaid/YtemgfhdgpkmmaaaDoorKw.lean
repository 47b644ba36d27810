/- The walk of ListKnown. -/
import Derived.Test.YtemgfhdgpkmmaaaDoorKa
set_option linter.unusedSimpArgs false
set_option linter.unusedVariables false
open Go Go.RowKit Cs
namespace Go.Proofs.YtemgfhdgpkmmaaaDoor
set_option maxRecDepth 100000 in
set_option maxHeartbeats 4000000 in
theorem known_any (w : World) (hT : Tab w) : Calls Tryd.prog 6 #[] w fun e w' => e = .returned (.bool true) ∧ Below w.heap.size w w' := by
  have HSA := Lib.hid (sample_any w)
  go_enter Tryd.func6, Tryd.ntmps6
  go_wp2_with fail
  refine HSA.out.mono ?_
  rintro e w1 ⟨g, rfl, hnt, hb1⟩
  have hT1 := hT.below hb1
  have q1 := (Bag.start hb1).new #[.int .i64 sampN.n, .slice (some ⟨g, 0, none⟩) sampN.l.length 7] 24 w1.heap.size 2 rfl rfl
  have HNT := Lib.hid (fun W (hb : Below w1.heap.size w1 W) => (hnt.below hb).more hb.size)
  have HTB := Lib.hid (fun W (hb : Below w1.heap.size w1 W) => hT1.below hb)
  clear hnt hT1
  have q2 := q1.new #[.int .u64 0, .int .u64 0, .int .u64 2, .int .u64 0, .int .u64 6, .int .u64 0, .int .u64 6, .int .u64 0, .int .u64 1, .int .u64 0, .int .u64 5, .int .u64 0, .int .u64 7, .int .u64 0, .int .u64 7, .int .u64 0] 52 (w1.heap.size + 1) 16 (by simp) rfl
  have HQ2 := Lib.hid q2
  clear q1 q2 HSA
  go_wp2_with fail
  go_loopw [40] (fun t wr => ∃ k : Nat, k ≤ 4 ∧ t = .int .i64 k ∧ Bag w w1 w1.heap.size [(w1.heap.size + 1, 52, 16, #[.int .u64 0, .int .u64 0, .int .u64 2, .int .u64 0, .int .u64 6, .int .u64 0, .int .u64 6, .int .u64 0, .int .u64 1, .int .u64 0, .int .u64 5, .int .u64 0, .int .u64 7, .int .u64 0, .int .u64 7, .int .u64 0]), (w1.heap.size, 24, 2, #[.int .i64 sampN.n, .slice (some ⟨g, 0, none⟩) sampN.l.length 7])] wr) (fun t _ => 4 - (intOf t).toNat)
  case atStart => exact ⟨0, by omega, rfl, HQ2.out⟩
  case round =>
    clear HQ2
    obtain ⟨k, hk, rfl, q3⟩ := hrel
    have hk4 : k = 0 ∨ k = 1 ∨ k = 2 ∨ k = 3 ∨ k = 4 := by omega
    have n1 := q3.tail.is0 0 (by decide) (.int .i64 sampN.n) rfl
    have n2 := q3.tail.is0 1 (by decide) (.slice (some ⟨g, 0, none⟩) sampN.l.length 7) rfl
    rcases hk4 with rfl | rfl | rfl | rfl | rfl
    · as_aux_lemma =>
      have g0 := q3.is0 0 (by decide) (.int .u64 0) rfl
      have g1 := q3.is0 1 (by decide) (.int .u64 0) rfl
      have g2 := q3.is0 2 (by decide) (.int .u64 2) rfl
      have g3 := q3.is0 3 (by decide) (.int .u64 0) rfl
      have q4 := q3.new #[.int .u64 0, .int .u64 0, .int .u64 2, .int .u64 0] 52 wr.heap.size 4 rfl rfl
      have m1 := q4.tail.tail.is0 0 (by decide) (.int .i64 sampN.n) rfl
      have m2 := q4.tail.tail.is0 1 (by decide) (.slice (some ⟨g, 0, none⟩) sampN.l.length 7) rfl
      have he : ∀ w, (Op.equalIn 10000 27 (.agg #[.int .u64 2, .int .u64 0]) (.agg #[.int .u64 2, .int .u64 0])).run Tryd.prog w = .ok true w := fun w => by rw [eq_set]; rfl
      go_wp2_with fail
      refine (kc_seek0 _ g (HNT.out _ q4.base) (HTB.out _ q4.base)).mono ?_
      rintro e w5 ⟨rfl, hb5⟩
      have q5 := q4.below hb5
      have x2 := q5.is0 2 (by decide) (.int .u64 2) rfl
      have x3 := q5.is0 3 (by decide) (.int .u64 0) rfl
      have q6 := q5.new #[.int .u64 2, .int .u64 0] 27 w5.heap.size 2 rfl rfl
      have y2 := q6.tail.is0 2 (by decide) (.int .u64 2) rfl
      have y3 := q6.tail.is0 3 (by decide) (.int .u64 0) rfl
      go_wp2
      go_roundw
      case rel => exact ⟨1, by omega, rfl, q6.tail.tail⟩
      case measure => simp [intOf]
    · as_aux_lemma =>
      have g0 := q3.is0 4 (by decide) (.int .u64 6) rfl
      have g1 := q3.is0 5 (by decide) (.int .u64 0) rfl
      have g2 := q3.is0 6 (by decide) (.int .u64 6) rfl
      have g3 := q3.is0 7 (by decide) (.int .u64 0) rfl
      have q4 := q3.new #[.int .u64 6, .int .u64 0, .int .u64 6, .int .u64 0] 52 wr.heap.size 4 rfl rfl
      have m1 := q4.tail.tail.is0 0 (by decide) (.int .i64 sampN.n) rfl
      have m2 := q4.tail.tail.is0 1 (by decide) (.slice (some ⟨g, 0, none⟩) sampN.l.length 7) rfl
      have he : ∀ w, (Op.equalIn 10000 27 (.agg #[.int .u64 6, .int .u64 0]) (.agg #[.int .u64 6, .int .u64 0])).run Tryd.prog w = .ok true w := fun w => by rw [eq_set]; rfl
      go_wp2_with fail
      refine (kc_seek6 _ g (HNT.out _ q4.base) (HTB.out _ q4.base)).mono ?_
      rintro e w5 ⟨rfl, hb5⟩
      have q5 := q4.below hb5
      have x2 := q5.is0 2 (by decide) (.int .u64 6) rfl
      have x3 := q5.is0 3 (by decide) (.int .u64 0) rfl
      have q6 := q5.new #[.int .u64 6, .int .u64 0] 27 w5.heap.size 2 rfl rfl
      have y2 := q6.tail.is0 2 (by decide) (.int .u64 6) rfl
      have y3 := q6.tail.is0 3 (by decide) (.int .u64 0) rfl
      go_wp2
      go_roundw
      case rel => exact ⟨2, by omega, rfl, q6.tail.tail⟩
      case measure => simp [intOf]
    · as_aux_lemma =>
      have g0 := q3.is0 8 (by decide) (.int .u64 1) rfl
      have g1 := q3.is0 9 (by decide) (.int .u64 0) rfl
      have g2 := q3.is0 10 (by decide) (.int .u64 5) rfl
      have g3 := q3.is0 11 (by decide) (.int .u64 0) rfl
      have q4 := q3.new #[.int .u64 1, .int .u64 0, .int .u64 5, .int .u64 0] 52 wr.heap.size 4 rfl rfl
      have m1 := q4.tail.tail.is0 0 (by decide) (.int .i64 sampN.n) rfl
      have m2 := q4.tail.tail.is0 1 (by decide) (.slice (some ⟨g, 0, none⟩) sampN.l.length 7) rfl
      have he : ∀ w, (Op.equalIn 10000 27 (.agg #[.int .u64 5, .int .u64 0]) (.agg #[.int .u64 5, .int .u64 0])).run Tryd.prog w = .ok true w := fun w => by rw [eq_set]; rfl
      go_wp2_with fail
      refine (kc_seek1 _ g (HNT.out _ q4.base) (HTB.out _ q4.base)).mono ?_
      rintro e w5 ⟨rfl, hb5⟩
      have q5 := q4.below hb5
      have x2 := q5.is0 2 (by decide) (.int .u64 5) rfl
      have x3 := q5.is0 3 (by decide) (.int .u64 0) rfl
      have q6 := q5.new #[.int .u64 5, .int .u64 0] 27 w5.heap.size 2 rfl rfl
      have y2 := q6.tail.is0 2 (by decide) (.int .u64 5) rfl
      have y3 := q6.tail.is0 3 (by decide) (.int .u64 0) rfl
      go_wp2
      go_roundw
      case rel => exact ⟨3, by omega, rfl, q6.tail.tail⟩
      case measure => simp [intOf]
    · as_aux_lemma =>
      have g0 := q3.is0 12 (by decide) (.int .u64 7) rfl
      have g1 := q3.is0 13 (by decide) (.int .u64 0) rfl
      have g2 := q3.is0 14 (by decide) (.int .u64 7) rfl
      have g3 := q3.is0 15 (by decide) (.int .u64 0) rfl
      have q4 := q3.new #[.int .u64 7, .int .u64 0, .int .u64 7, .int .u64 0] 52 wr.heap.size 4 rfl rfl
      have m1 := q4.tail.tail.is0 0 (by decide) (.int .i64 sampN.n) rfl
      have m2 := q4.tail.tail.is0 1 (by decide) (.slice (some ⟨g, 0, none⟩) sampN.l.length 7) rfl
      have he : ∀ w, (Op.equalIn 10000 27 (.agg #[.int .u64 7, .int .u64 0]) (.agg #[.int .u64 7, .int .u64 0])).run Tryd.prog w = .ok true w := fun w => by rw [eq_set]; rfl
      go_wp2_with fail
      refine (kc_seek7 _ g (HNT.out _ q4.base) (HTB.out _ q4.base)).mono ?_
      rintro e w5 ⟨rfl, hb5⟩
      have q5 := q4.below hb5
      have x2 := q5.is0 2 (by decide) (.int .u64 7) rfl
      have x3 := q5.is0 3 (by decide) (.int .u64 0) rfl
      have q6 := q5.new #[.int .u64 7, .int .u64 0] 27 w5.heap.size 2 rfl rfl
      have y2 := q6.tail.is0 2 (by decide) (.int .u64 7) rfl
      have y3 := q6.tail.is0 3 (by decide) (.int .u64 0) rfl
      go_wp2
      go_roundw
      case rel => exact ⟨4, by omega, rfl, q6.tail.tail⟩
      case measure => simp [intOf]
    · obtain ⟨W0, rfl⟩ : ∃ W0, W0 = wr := ⟨wr, rfl⟩
      have q4 := q3.tail.new #[.int .u64 0, .int .u64 0, .int .u64 6, .int .u64 0, .int .u64 1, .int .u64 0, .int .u64 7, .int .u64 0] 27 W0.heap.size 8 rfl rfl
      have HQ4 := Lib.hid q4
      clear q3 n1 n2
      go_wp2_with fail
      go_loopw [71] (fun t wr => ∃ k : Nat, k ≤ 4 ∧ t = .int .i64 k ∧ Bag w w1 w1.heap.size [(W0.heap.size, 27, 8, #[.int .u64 0, .int .u64 0, .int .u64 6, .int .u64 0, .int .u64 1, .int .u64 0, .int .u64 7, .int .u64 0]), (w1.heap.size, 24, 2, #[.int .i64 sampN.n, .slice (some ⟨g, 0, none⟩) sampN.l.length 7])] wr) (fun t _ => 4 - (intOf t).toNat)
      case atStart => exact ⟨0, by omega, rfl, HQ4.out⟩
      case round =>
        clear HQ4
        obtain ⟨k, hk, rfl, q3⟩ := hrel
        have hk4 : k = 0 ∨ k = 1 ∨ k = 2 ∨ k = 3 ∨ k = 4 := by omega
        have n1 := q3.tail.is0 0 (by decide) (.int .i64 sampN.n) rfl
        have n2 := q3.tail.is0 1 (by decide) (.slice (some ⟨g, 0, none⟩) sampN.l.length 7) rfl
        rcases hk4 with rfl | rfl | rfl | rfl | rfl
        · as_aux_lemma =>
          have g0 := q3.is0 0 (by decide) (.int .u64 0) rfl
          have g1 := q3.is0 1 (by decide) (.int .u64 0) rfl
          have q4 := q3.new #[.int .u64 0, .int .u64 0] 27 wr.heap.size 2 rfl rfl
          have m1 := q4.tail.tail.is0 0 (by decide) (.int .i64 sampN.n) rfl
          have m2 := q4.tail.tail.is0 1 (by decide) (.slice (some ⟨g, 0, none⟩) sampN.l.length 7) rfl
          have he : ∀ w, (Op.equalIn 10000 43 (.agg #[.string (natB 0)]) (.agg #[.string (natB 0)])).run Tryd.prog w = .ok true w := fun w => (eq_nats 0 0 w).trans (by rw [decide_eq_true rfl])
          go_wp2_with fail
          refine (kc_rank0 _ g (HNT.out _ q4.base) (HTB.out _ q4.base)).mono ?_
          rintro e w5 ⟨rfl, hb5⟩
          have q6 := (q4.below hb5).new #[.string (natB 0)] 43 w5.heap.size 1 rfl rfl
          go_wp2_with fail
          have hwv : IntKind.u64.wrap 0 = 0 := by rw [IntKind.wrap_u64]; rfl
          replace q6 := q6.drew
          have x1 := q6.is0 0 (by decide) (.string (natB 0)) rfl
          refine wp_region_heldE (fun w' => w'.cell? ⟨w5.heap.size, 0, none⟩ = some (Value.string (natB 0))) 8 (by kernel_rfl) x1 (fun hS => ?_)
          refine wpAnyE_take (i := 0) (v := ?_) hS (by kernel_rfl) rfl (by kernel_rfl) (by kernel_rfl) (fun _ _ _ h => h) (Or.inl ⟨by rfl, ?_⟩) ?_
          rotate_left
          · (intro w hSw; go_simp; try with_reducible rfl)
          try simp only [Act.put, List.getElem_toArray, List.getElem_cons_succ, List.getElem_cons_zero, List.setIfInBounds_toArray, List.set_cons_zero, List.set_cons_succ]
          refine wpAnyE_take (i := 1) (v := ?_) hS (by kernel_rfl) rfl (by kernel_rfl) (by kernel_rfl) (fun _ _ _ h => h) (Or.inl ⟨by rfl, ?_⟩) ?_
          rotate_left
          · (intro w hSw; go_simp; try with_reducible rfl)
          try simp only [Act.put, List.getElem_toArray, List.getElem_cons_succ, List.getElem_cons_zero, List.setIfInBounds_toArray, List.set_cons_zero, List.set_cons_succ]
          refine wpAnyE_take (i := 2) (v := ?_) hS (by kernel_rfl) rfl (by kernel_rfl) (by kernel_rfl) (fun _ _ _ h => h) (Or.inl ⟨by rfl, ?_⟩) ?_
          rotate_left
          · (intro w hSw; go_simp; try with_reducible rfl)
          try simp only [Act.put, List.getElem_toArray, List.getElem_cons_succ, List.getElem_cons_zero, List.setIfInBounds_toArray, List.set_cons_zero, List.set_cons_succ]
          refine wpAnyE_one 3 (by kernel_rfl) rfl (fun K hK => ?_)
          go_simp
          go_at_call 20
          (with_reducible refine (kc_of0 _).mono ?_)
          rintro e w6 ⟨rfl, hb6⟩
          replace q6 := q6.below hb6
          have x1 := q6.is0 0 (by decide) (.string (natB 0)) rfl
          refine hK.out _ _ (fun _ => x1) (fun hS => ?_)
          replace hS := hS (by decide)
          clear hK K
          try simp only [Act.put, List.getElem_toArray, List.getElem_cons_succ, List.getElem_cons_zero, List.setIfInBounds_toArray, List.set_cons_zero, List.set_cons_succ]
          refine wpAnyE_take (i := 4) (v := ?_) hS (by kernel_rfl) rfl (by kernel_rfl) (by kernel_rfl) (fun _ _ _ h => h) (Or.inl ⟨by rfl, ?_⟩) ?_
          rotate_left
          · (intro w hSw; go_simp; try with_reducible rfl)
          try simp only [Act.put, List.getElem_toArray, List.getElem_cons_succ, List.getElem_cons_zero, List.setIfInBounds_toArray, List.set_cons_zero, List.set_cons_succ]
          refine wpAnyE_take (i := 5) (v := ?_) hS (by kernel_rfl) rfl (by kernel_rfl) (by kernel_rfl) (fun _ _ _ h => h) (Or.inl ⟨by rfl, ?_⟩) ?_
          rotate_left
          · (intro w hSw; go_simp; try with_reducible rfl)
          try simp only [Act.put, List.getElem_toArray, List.getElem_cons_succ, List.getElem_cons_zero, List.setIfInBounds_toArray, List.set_cons_zero, List.set_cons_succ]
          refine wpAnyE_take (i := 6) (v := ?_) hS (by kernel_rfl) rfl (by kernel_rfl) (by kernel_rfl) (fun _ _ _ h => h) (Or.inl ⟨by rfl, ?_⟩) ?_
          rotate_left
          · (intro w hSw; go_simp; try with_reducible rfl)
          try simp only [Act.put, List.getElem_toArray, List.getElem_cons_succ, List.getElem_cons_zero, List.setIfInBounds_toArray, List.set_cons_zero, List.set_cons_succ]
          refine wpAnyE_take (i := 7) (v := ?_) hS (by kernel_rfl) rfl (by kernel_rfl) (by kernel_rfl) (fun _ _ _ h => h) (Or.inl ⟨by rfl, ?_⟩) ?_
          rotate_left
          · (intro w hSw; go_simp; try with_reducible rfl)
          try simp only [Act.put, List.getElem_toArray, List.getElem_cons_succ, List.getElem_cons_zero, List.setIfInBounds_toArray, List.set_cons_zero, List.set_cons_succ]
          refine wpAnyE_one 8 (by kernel_rfl) rfl (fun K hK => ?_)
          go_simp
          refine hK.out _ _ (fun h => absurd rfl h) (fun _ => ?_)
          clear hK K
          refine wpAnyE_done (by kernel_rfl) ?_ _
          go_wp2
          go_roundw
          case rel => first | exact ⟨1, by omega, rfl, q6.tail.tail⟩ | ((repeat apply Exists.intro); exact ⟨⟨1, by omega, rfl, q6.tail.tail⟩, rfl⟩)
          case measure => simp [intOf]
        · as_aux_lemma =>
          have g0 := q3.is0 2 (by decide) (.int .u64 6) rfl
          have g1 := q3.is0 3 (by decide) (.int .u64 0) rfl
          have q4 := q3.new #[.int .u64 6, .int .u64 0] 27 wr.heap.size 2 rfl rfl
          have m1 := q4.tail.tail.is0 0 (by decide) (.int .i64 sampN.n) rfl
          have m2 := q4.tail.tail.is0 1 (by decide) (.slice (some ⟨g, 0, none⟩) sampN.l.length 7) rfl
          have he : ∀ w, (Op.equalIn 10000 43 (.agg #[.string (natB 1)]) (.agg #[.string (natB 1)])).run Tryd.prog w = .ok true w := fun w => (eq_nats 1 1 w).trans (by rw [decide_eq_true rfl])
          go_wp2_with fail
          refine (kc_rank6 _ g (HNT.out _ q4.base) (HTB.out _ q4.base)).mono ?_
          rintro e w5 ⟨rfl, hb5⟩
          have q6 := (q4.below hb5).new #[.string (natB 1)] 43 w5.heap.size 1 rfl rfl
          go_wp2_with fail
          have hwv : IntKind.u64.wrap 1 = 1 := by rw [IntKind.wrap_u64]; rfl
          replace q6 := q6.drew
          have x1 := q6.is0 0 (by decide) (.string (natB 1)) rfl
          refine wp_region_heldE (fun w' => w'.cell? ⟨w5.heap.size, 0, none⟩ = some (Value.string (natB 1))) 8 (by kernel_rfl) x1 (fun hS => ?_)
          refine wpAnyE_take (i := 0) (v := ?_) hS (by kernel_rfl) rfl (by kernel_rfl) (by kernel_rfl) (fun _ _ _ h => h) (Or.inl ⟨by rfl, ?_⟩) ?_
          rotate_left
          · (intro w hSw; go_simp; try with_reducible rfl)
          try simp only [Act.put, List.getElem_toArray, List.getElem_cons_succ, List.getElem_cons_zero, List.setIfInBounds_toArray, List.set_cons_zero, List.set_cons_succ]
          refine wpAnyE_take (i := 1) (v := ?_) hS (by kernel_rfl) rfl (by kernel_rfl) (by kernel_rfl) (fun _ _ _ h => h) (Or.inl ⟨by rfl, ?_⟩) ?_
          rotate_left
          · (intro w hSw; go_simp; try with_reducible rfl)
          try simp only [Act.put, List.getElem_toArray, List.getElem_cons_succ, List.getElem_cons_zero, List.setIfInBounds_toArray, List.set_cons_zero, List.set_cons_succ]
          refine wpAnyE_take (i := 2) (v := ?_) hS (by kernel_rfl) rfl (by kernel_rfl) (by kernel_rfl) (fun _ _ _ h => h) (Or.inl ⟨by rfl, ?_⟩) ?_
          rotate_left
          · (intro w hSw; go_simp; try with_reducible rfl)
          try simp only [Act.put, List.getElem_toArray, List.getElem_cons_succ, List.getElem_cons_zero, List.setIfInBounds_toArray, List.set_cons_zero, List.set_cons_succ]
          refine wpAnyE_one 3 (by kernel_rfl) rfl (fun K hK => ?_)
          go_simp
          go_at_call 20
          (with_reducible refine (kc_of1 _).mono ?_)
          rintro e w6 ⟨rfl, hb6⟩
          replace q6 := q6.below hb6
          have x1 := q6.is0 0 (by decide) (.string (natB 1)) rfl
          refine hK.out _ _ (fun _ => x1) (fun hS => ?_)
          replace hS := hS (by decide)
          clear hK K
          try simp only [Act.put, List.getElem_toArray, List.getElem_cons_succ, List.getElem_cons_zero, List.setIfInBounds_toArray, List.set_cons_zero, List.set_cons_succ]
          refine wpAnyE_take (i := 4) (v := ?_) hS (by kernel_rfl) rfl (by kernel_rfl) (by kernel_rfl) (fun _ _ _ h => h) (Or.inl ⟨by rfl, ?_⟩) ?_
          rotate_left
          · (intro w hSw; go_simp; try with_reducible rfl)
          try simp only [Act.put, List.getElem_toArray, List.getElem_cons_succ, List.getElem_cons_zero, List.setIfInBounds_toArray, List.set_cons_zero, List.set_cons_succ]
          refine wpAnyE_take (i := 5) (v := ?_) hS (by kernel_rfl) rfl (by kernel_rfl) (by kernel_rfl) (fun _ _ _ h => h) (Or.inl ⟨by rfl, ?_⟩) ?_
          rotate_left
          · (intro w hSw; go_simp; try with_reducible rfl)
          try simp only [Act.put, List.getElem_toArray, List.getElem_cons_succ, List.getElem_cons_zero, List.setIfInBounds_toArray, List.set_cons_zero, List.set_cons_succ]
          refine wpAnyE_take (i := 6) (v := ?_) hS (by kernel_rfl) rfl (by kernel_rfl) (by kernel_rfl) (fun _ _ _ h => h) (Or.inl ⟨by rfl, ?_⟩) ?_
          rotate_left
          · (intro w hSw; go_simp; try with_reducible rfl)
          try simp only [Act.put, List.getElem_toArray, List.getElem_cons_succ, List.getElem_cons_zero, List.setIfInBounds_toArray, List.set_cons_zero, List.set_cons_succ]
          refine wpAnyE_take (i := 7) (v := ?_) hS (by kernel_rfl) rfl (by kernel_rfl) (by kernel_rfl) (fun _ _ _ h => h) (Or.inl ⟨by rfl, ?_⟩) ?_
          rotate_left
          · (intro w hSw; go_simp; try with_reducible rfl)
          try simp only [Act.put, List.getElem_toArray, List.getElem_cons_succ, List.getElem_cons_zero, List.setIfInBounds_toArray, List.set_cons_zero, List.set_cons_succ]
          refine wpAnyE_one 8 (by kernel_rfl) rfl (fun K hK => ?_)
          go_simp
          refine hK.out _ _ (fun h => absurd rfl h) (fun _ => ?_)
          clear hK K
          refine wpAnyE_done (by kernel_rfl) ?_ _
          go_wp2
          go_roundw
          case rel => first | exact ⟨2, by omega, rfl, q6.tail.tail⟩ | ((repeat apply Exists.intro); exact ⟨⟨2, by omega, rfl, q6.tail.tail⟩, rfl⟩)
          case measure => simp [intOf]
        · as_aux_lemma =>
          have g0 := q3.is0 4 (by decide) (.int .u64 1) rfl
          have g1 := q3.is0 5 (by decide) (.int .u64 0) rfl
          have q4 := q3.new #[.int .u64 1, .int .u64 0] 27 wr.heap.size 2 rfl rfl
          have m1 := q4.tail.tail.is0 0 (by decide) (.int .i64 sampN.n) rfl
          have m2 := q4.tail.tail.is0 1 (by decide) (.slice (some ⟨g, 0, none⟩) sampN.l.length 7) rfl
          have he : ∀ w, (Op.equalIn 10000 43 (.agg #[.string (natB 2)]) (.agg #[.string (natB 2)])).run Tryd.prog w = .ok true w := fun w => (eq_nats 2 2 w).trans (by rw [decide_eq_true rfl])
          go_wp2_with fail
          refine (kc_rank1 _ g (HNT.out _ q4.base) (HTB.out _ q4.base)).mono ?_
          rintro e w5 ⟨rfl, hb5⟩
          have q6 := (q4.below hb5).new #[.string (natB 2)] 43 w5.heap.size 1 rfl rfl
          go_wp2_with fail
          have hwv : IntKind.u64.wrap 2 = 2 := by rw [IntKind.wrap_u64]; rfl
          replace q6 := q6.drew
          have x1 := q6.is0 0 (by decide) (.string (natB 2)) rfl
          refine wp_region_heldE (fun w' => w'.cell? ⟨w5.heap.size, 0, none⟩ = some (Value.string (natB 2))) 8 (by kernel_rfl) x1 (fun hS => ?_)
          refine wpAnyE_take (i := 0) (v := ?_) hS (by kernel_rfl) rfl (by kernel_rfl) (by kernel_rfl) (fun _ _ _ h => h) (Or.inl ⟨by rfl, ?_⟩) ?_
          rotate_left
          · (intro w hSw; go_simp; try with_reducible rfl)
          try simp only [Act.put, List.getElem_toArray, List.getElem_cons_succ, List.getElem_cons_zero, List.setIfInBounds_toArray, List.set_cons_zero, List.set_cons_succ]
          refine wpAnyE_take (i := 1) (v := ?_) hS (by kernel_rfl) rfl (by kernel_rfl) (by kernel_rfl) (fun _ _ _ h => h) (Or.inl ⟨by rfl, ?_⟩) ?_
          rotate_left
          · (intro w hSw; go_simp; try with_reducible rfl)
          try simp only [Act.put, List.getElem_toArray, List.getElem_cons_succ, List.getElem_cons_zero, List.setIfInBounds_toArray, List.set_cons_zero, List.set_cons_succ]
          refine wpAnyE_take (i := 2) (v := ?_) hS (by kernel_rfl) rfl (by kernel_rfl) (by kernel_rfl) (fun _ _ _ h => h) (Or.inl ⟨by rfl, ?_⟩) ?_
          rotate_left
          · (intro w hSw; go_simp; try with_reducible rfl)
          try simp only [Act.put, List.getElem_toArray, List.getElem_cons_succ, List.getElem_cons_zero, List.setIfInBounds_toArray, List.set_cons_zero, List.set_cons_succ]
          refine wpAnyE_one 3 (by kernel_rfl) rfl (fun K hK => ?_)
          go_simp
          go_at_call 20
          (with_reducible refine (kc_of2 _).mono ?_)
          rintro e w6 ⟨rfl, hb6⟩
          replace q6 := q6.below hb6
          have x1 := q6.is0 0 (by decide) (.string (natB 2)) rfl
          refine hK.out _ _ (fun _ => x1) (fun hS => ?_)
          replace hS := hS (by decide)
          clear hK K
          try simp only [Act.put, List.getElem_toArray, List.getElem_cons_succ, List.getElem_cons_zero, List.setIfInBounds_toArray, List.set_cons_zero, List.set_cons_succ]
          refine wpAnyE_take (i := 4) (v := ?_) hS (by kernel_rfl) rfl (by kernel_rfl) (by kernel_rfl) (fun _ _ _ h => h) (Or.inl ⟨by rfl, ?_⟩) ?_
          rotate_left
          · (intro w hSw; go_simp; try with_reducible rfl)
          try simp only [Act.put, List.getElem_toArray, List.getElem_cons_succ, List.getElem_cons_zero, List.setIfInBounds_toArray, List.set_cons_zero, List.set_cons_succ]
          refine wpAnyE_take (i := 5) (v := ?_) hS (by kernel_rfl) rfl (by kernel_rfl) (by kernel_rfl) (fun _ _ _ h => h) (Or.inl ⟨by rfl, ?_⟩) ?_
          rotate_left
          · (intro w hSw; go_simp; try with_reducible rfl)
          try simp only [Act.put, List.getElem_toArray, List.getElem_cons_succ, List.getElem_cons_zero, List.setIfInBounds_toArray, List.set_cons_zero, List.set_cons_succ]
          refine wpAnyE_take (i := 6) (v := ?_) hS (by kernel_rfl) rfl (by kernel_rfl) (by kernel_rfl) (fun _ _ _ h => h) (Or.inl ⟨by rfl, ?_⟩) ?_
          rotate_left
          · (intro w hSw; go_simp; try with_reducible rfl)
          try simp only [Act.put, List.getElem_toArray, List.getElem_cons_succ, List.getElem_cons_zero, List.setIfInBounds_toArray, List.set_cons_zero, List.set_cons_succ]
          refine wpAnyE_take (i := 7) (v := ?_) hS (by kernel_rfl) rfl (by kernel_rfl) (by kernel_rfl) (fun _ _ _ h => h) (Or.inl ⟨by rfl, ?_⟩) ?_
          rotate_left
          · (intro w hSw; go_simp; try with_reducible rfl)
          try simp only [Act.put, List.getElem_toArray, List.getElem_cons_succ, List.getElem_cons_zero, List.setIfInBounds_toArray, List.set_cons_zero, List.set_cons_succ]
          refine wpAnyE_one 8 (by kernel_rfl) rfl (fun K hK => ?_)
          go_simp
          refine hK.out _ _ (fun h => absurd rfl h) (fun _ => ?_)
          clear hK K
          refine wpAnyE_done (by kernel_rfl) ?_ _
          go_wp2
          go_roundw
          case rel => first | exact ⟨3, by omega, rfl, q6.tail.tail⟩ | ((repeat apply Exists.intro); exact ⟨⟨3, by omega, rfl, q6.tail.tail⟩, rfl⟩)
          case measure => simp [intOf]
        · as_aux_lemma =>
          have g0 := q3.is0 6 (by decide) (.int .u64 7) rfl
          have g1 := q3.is0 7 (by decide) (.int .u64 0) rfl
          have q4 := q3.new #[.int .u64 7, .int .u64 0] 27 wr.heap.size 2 rfl rfl
          have m1 := q4.tail.tail.is0 0 (by decide) (.int .i64 sampN.n) rfl
          have m2 := q4.tail.tail.is0 1 (by decide) (.slice (some ⟨g, 0, none⟩) sampN.l.length 7) rfl
          have he : ∀ w, (Op.equalIn 10000 43 (.agg #[.string (natB 3)]) (.agg #[.string (natB 3)])).run Tryd.prog w = .ok true w := fun w => (eq_nats 3 3 w).trans (by rw [decide_eq_true rfl])
          go_wp2_with fail
          refine (kc_rank7 _ g (HNT.out _ q4.base) (HTB.out _ q4.base)).mono ?_
          rintro e w5 ⟨rfl, hb5⟩
          have q6 := (q4.below hb5).new #[.string (natB 3)] 43 w5.heap.size 1 rfl rfl
          go_wp2_with fail
          have hwv : IntKind.u64.wrap 3 = 3 := by rw [IntKind.wrap_u64]; rfl
          replace q6 := q6.drew
          have x1 := q6.is0 0 (by decide) (.string (natB 3)) rfl
          refine wp_region_heldE (fun w' => w'.cell? ⟨w5.heap.size, 0, none⟩ = some (Value.string (natB 3))) 8 (by kernel_rfl) x1 (fun hS => ?_)
          refine wpAnyE_take (i := 0) (v := ?_) hS (by kernel_rfl) rfl (by kernel_rfl) (by kernel_rfl) (fun _ _ _ h => h) (Or.inl ⟨by rfl, ?_⟩) ?_
          rotate_left
          · (intro w hSw; go_simp; try with_reducible rfl)
          try simp only [Act.put, List.getElem_toArray, List.getElem_cons_succ, List.getElem_cons_zero, List.setIfInBounds_toArray, List.set_cons_zero, List.set_cons_succ]
          refine wpAnyE_take (i := 1) (v := ?_) hS (by kernel_rfl) rfl (by kernel_rfl) (by kernel_rfl) (fun _ _ _ h => h) (Or.inl ⟨by rfl, ?_⟩) ?_
          rotate_left
          · (intro w hSw; go_simp; try with_reducible rfl)
          try simp only [Act.put, List.getElem_toArray, List.getElem_cons_succ, List.getElem_cons_zero, List.setIfInBounds_toArray, List.set_cons_zero, List.set_cons_succ]
          refine wpAnyE_take (i := 2) (v := ?_) hS (by kernel_rfl) rfl (by kernel_rfl) (by kernel_rfl) (fun _ _ _ h => h) (Or.inl ⟨by rfl, ?_⟩) ?_
          rotate_left
          · (intro w hSw; go_simp; try with_reducible rfl)
          try simp only [Act.put, List.getElem_toArray, List.getElem_cons_succ, List.getElem_cons_zero, List.setIfInBounds_toArray, List.set_cons_zero, List.set_cons_succ]
          refine wpAnyE_one 3 (by kernel_rfl) rfl (fun K hK => ?_)
          go_simp
          go_at_call 20
          (with_reducible refine (kc_of3 _).mono ?_)
          rintro e w6 ⟨rfl, hb6⟩
          replace q6 := q6.below hb6
          have x1 := q6.is0 0 (by decide) (.string (natB 3)) rfl
          refine hK.out _ _ (fun _ => x1) (fun hS => ?_)
          replace hS := hS (by decide)
          clear hK K
          try simp only [Act.put, List.getElem_toArray, List.getElem_cons_succ, List.getElem_cons_zero, List.setIfInBounds_toArray, List.set_cons_zero, List.set_cons_succ]
          refine wpAnyE_take (i := 4) (v := ?_) hS (by kernel_rfl) rfl (by kernel_rfl) (by kernel_rfl) (fun _ _ _ h => h) (Or.inl ⟨by rfl, ?_⟩) ?_
          rotate_left
          · (intro w hSw; go_simp; try with_reducible rfl)
          try simp only [Act.put, List.getElem_toArray, List.getElem_cons_succ, List.getElem_cons_zero, List.setIfInBounds_toArray, List.set_cons_zero, List.set_cons_succ]
          refine wpAnyE_take (i := 5) (v := ?_) hS (by kernel_rfl) rfl (by kernel_rfl) (by kernel_rfl) (fun _ _ _ h => h) (Or.inl ⟨by rfl, ?_⟩) ?_
          rotate_left
          · (intro w hSw; go_simp; try with_reducible rfl)
          try simp only [Act.put, List.getElem_toArray, List.getElem_cons_succ, List.getElem_cons_zero, List.setIfInBounds_toArray, List.set_cons_zero, List.set_cons_succ]
          refine wpAnyE_take (i := 6) (v := ?_) hS (by kernel_rfl) rfl (by kernel_rfl) (by kernel_rfl) (fun _ _ _ h => h) (Or.inl ⟨by rfl, ?_⟩) ?_
          rotate_left
          · (intro w hSw; go_simp; try with_reducible rfl)
          try simp only [Act.put, List.getElem_toArray, List.getElem_cons_succ, List.getElem_cons_zero, List.setIfInBounds_toArray, List.set_cons_zero, List.set_cons_succ]
          refine wpAnyE_take (i := 7) (v := ?_) hS (by kernel_rfl) rfl (by kernel_rfl) (by kernel_rfl) (fun _ _ _ h => h) (Or.inl ⟨by rfl, ?_⟩) ?_
          rotate_left
          · (intro w hSw; go_simp; try with_reducible rfl)
          try simp only [Act.put, List.getElem_toArray, List.getElem_cons_succ, List.getElem_cons_zero, List.setIfInBounds_toArray, List.set_cons_zero, List.set_cons_succ]
          refine wpAnyE_one 8 (by kernel_rfl) rfl (fun K hK => ?_)
          go_simp
          refine hK.out _ _ (fun h => absurd rfl h) (fun _ => ?_)
          clear hK K
          refine wpAnyE_done (by kernel_rfl) ?_ _
          go_wp2
          go_roundw
          case rel => first | exact ⟨4, by omega, rfl, q6.tail.tail⟩ | ((repeat apply Exists.intro); exact ⟨⟨4, by omega, rfl, q6.tail.tail⟩, rfl⟩)
          case measure => simp [intOf]
        · have q4 := q3.tail
          clear q3 n1 n2
          go_wp2_with fail
          refine (lit_any _ _).mono ?_
          rintro e w6 ⟨rfl, hb6⟩
          go_wp2_with fail
          refine (lit_any _ _).mono ?_
          rintro e w7 ⟨rfl, hb7⟩
          have q7 := (q4.below hb6).below hb7
          have q8 := ((q7.new #[.int .i64 0, .int .i64 1] 3 w7.heap.size 2 rfl rfl).new #[.int .i64 2, .int .i64 1, .slice none 0 0, .int .i64 2, .int .i64 1, .slice none 0 0, .int .i64 4, .int .i64 0, .slice (some ⟨w7.heap.size, 0, none⟩) 2 2] 41 (w7.heap.size + 1) 9 (by simp) rfl).new #[.int .i64 1, .slice (some ⟨w7.heap.size + 1, 0, none⟩) 3 3] 24 (w7.heap.size + 1 + 1) 2 (by simp) rfl
          have hnt2 := twiceN_at (B := ((((w7.alloc (.cells #[.int .i64 0, .int .i64 1] 3)).alloc (.cells #[.int .i64 2, .int .i64 1, .slice none 0 0, .int .i64 2, .int .i64 1, .slice none 0 0, .int .i64 4, .int .i64 0, .slice (some ⟨w7.heap.size, 0, none⟩) 2 2] 41)).alloc (.cells #[.int .i64 1, .slice (some ⟨w7.heap.size + 1, 0, none⟩) 3 3] 24))).heap.size) (by simp <;> omega) (by simp <;> omega) q8.tail.tail.row0 q8.tail.row0
          have HNS := Lib.hid (fun W (hb : Below ((((w7.alloc (.cells #[.int .i64 0, .int .i64 1] 3)).alloc (.cells #[.int .i64 2, .int .i64 1, .slice none 0 0, .int .i64 2, .int .i64 1, .slice none 0 0, .int .i64 4, .int .i64 0, .slice (some ⟨w7.heap.size, 0, none⟩) 2 2] 41)).alloc (.cells #[.int .i64 1, .slice (some ⟨w7.heap.size + 1, 0, none⟩) 3 3] 24))).heap.size (((w7.alloc (.cells #[.int .i64 0, .int .i64 1] 3)).alloc (.cells #[.int .i64 2, .int .i64 1, .slice none 0 0, .int .i64 2, .int .i64 1, .slice none 0 0, .int .i64 4, .int .i64 0, .slice (some ⟨w7.heap.size, 0, none⟩) 2 2] 41)).alloc (.cells #[.int .i64 1, .slice (some ⟨w7.heap.size + 1, 0, none⟩) 3 3] 24)) W) => HNT.out W (q8.base.trans (hb.mono q8.le)))
          have HTS := Lib.hid (fun W (hb : Below ((((w7.alloc (.cells #[.int .i64 0, .int .i64 1] 3)).alloc (.cells #[.int .i64 2, .int .i64 1, .slice none 0 0, .int .i64 2, .int .i64 1, .slice none 0 0, .int .i64 4, .int .i64 0, .slice (some ⟨w7.heap.size, 0, none⟩) 2 2] 41)).alloc (.cells #[.int .i64 1, .slice (some ⟨w7.heap.size + 1, 0, none⟩) 3 3] 24))).heap.size (((w7.alloc (.cells #[.int .i64 0, .int .i64 1] 3)).alloc (.cells #[.int .i64 2, .int .i64 1, .slice none 0 0, .int .i64 2, .int .i64 1, .slice none 0 0, .int .i64 4, .int .i64 0, .slice (some ⟨w7.heap.size, 0, none⟩) 2 2] 41)).alloc (.cells #[.int .i64 1, .slice (some ⟨w7.heap.size + 1, 0, none⟩) 3 3] 24)) W) => HTB.out W (q8.base.trans (hb.mono q8.le)))
          have HN2 := Lib.hid (fun W (hb : Below ((((w7.alloc (.cells #[.int .i64 0, .int .i64 1] 3)).alloc (.cells #[.int .i64 2, .int .i64 1, .slice none 0 0, .int .i64 2, .int .i64 1, .slice none 0 0, .int .i64 4, .int .i64 0, .slice (some ⟨w7.heap.size, 0, none⟩) 2 2] 41)).alloc (.cells #[.int .i64 1, .slice (some ⟨w7.heap.size + 1, 0, none⟩) 3 3] 24))).heap.size (((w7.alloc (.cells #[.int .i64 0, .int .i64 1] 3)).alloc (.cells #[.int .i64 2, .int .i64 1, .slice none 0 0, .int .i64 2, .int .i64 1, .slice none 0 0, .int .i64 4, .int .i64 0, .slice (some ⟨w7.heap.size, 0, none⟩) 2 2] 41)).alloc (.cells #[.int .i64 1, .slice (some ⟨w7.heap.size + 1, 0, none⟩) 3 3] 24)) W) => (hnt2.below hb).more hb.size)
          have q9 := q8.rebase
          have m1 := q9.is0 0 (by decide) (.int .i64 1) rfl
          have m2 := q9.is0 1 (by decide) (.slice (some ⟨w7.heap.size + 1, 0, none⟩) 3 3) rfl
          clear q4 q7 q8 hnt2 HNT HTB hb6 hb7
          go_wp2_with fail
          refine (kc_rankT _ (w7.heap.size + 1) (HN2.out _ q9.base) (HTS.out _ q9.base)).mono ?_
          rintro e w8 ⟨rfl, hb8⟩
          have q10 := (q9.below hb8).new #[.string (natB 0)] 43 w8.heap.size 1 rfl rfl
          clear q9 m1 m2
          go_wp2_with fail
          generalize w8.alloc (.cells #[.string (natB 0)] 43) = W8 at q10 ⊢
          go_cut [14, 15, 16] from 104 to 110 (fun p x y wx => ∃ X, p = .pointer (some ⟨X, 0, none⟩) ∧ x = .bool true ∧ y = .int .i64 0 ∧ Bag w (((w7.alloc (.cells #[.int .i64 0, .int .i64 1] 3)).alloc (.cells #[.int .i64 2, .int .i64 1, .slice none 0 0, .int .i64 2, .int .i64 1, .slice none 0 0, .int .i64 4, .int .i64 0, .slice (some ⟨w7.heap.size, 0, none⟩) 2 2] 41)).alloc (.cells #[.int .i64 1, .slice (some ⟨w7.heap.size + 1, 0, none⟩) 3 3] 24)) ((((w7.alloc (.cells #[.int .i64 0, .int .i64 1] 3)).alloc (.cells #[.int .i64 2, .int .i64 1, .slice none 0 0, .int .i64 2, .int .i64 1, .slice none 0 0, .int .i64 4, .int .i64 0, .slice (some ⟨w7.heap.size, 0, none⟩) 2 2] 41)).alloc (.cells #[.int .i64 1, .slice (some ⟨w7.heap.size + 1, 0, none⟩) 3 3] 24))).heap.size ((X, 27, 2, #[.int .u64 1, .int .u64 0]) :: [(w8.heap.size, 43, 1, #[.string (natB 0)]), (w7.heap.size + 1 + 1, 24, 2, #[.int .i64 1, .slice (some ⟨w7.heap.size + 1, 0, none⟩) 3 3]), (w7.heap.size + 1, 41, 9, #[.int .i64 2, .int .i64 1, .slice none 0 0, .int .i64 2, .int .i64 1, .slice none 0 0, .int .i64 4, .int .i64 0, .slice (some ⟨w7.heap.size, 0, none⟩) 2 2]), (w7.heap.size, 3, 2, #[.int .i64 0, .int .i64 1]), (w1.heap.size, 24, 2, #[.int .i64 sampN.n, .slice (some ⟨g, 0, none⟩) sampN.l.length 7])]) wx)
          case first =>
            have q6 := q10.drew
            have hz := (q10.new #[.int .u64 0, .int .u64 0] 27 _ 2 rfl rfl).row0.drew
            have hX0 := q10.fresh
            have m1 := q6.is (w7.heap.size + 1 + 1) 2 24 #[.int .i64 1, .slice (some ⟨w7.heap.size + 1, 0, none⟩) 3 3] (by simp) 0 (by decide) (Value.int .i64 twiceN.n) rfl
            have m2 := q6.is (w7.heap.size + 1 + 1) 2 24 #[.int .i64 1, .slice (some ⟨w7.heap.size + 1, 0, none⟩) 3 3] (by simp) 1 (by decide) (Value.slice (some ⟨w7.heap.size + 1, 0, none⟩) twiceN.l.length 3) rfl
            go_region_held3 (fun w' => w'.cell? ⟨w7.heap.size + 1 + 1, 0, none⟩ = some (Value.int .i64 twiceN.n) ∧ w'.cell? ⟨w7.heap.size + 1 + 1, 1, none⟩ = some (Value.slice (some ⟨w7.heap.size + 1, 0, none⟩) twiceN.l.length 3))
              (first | exact ⟨m1, m2⟩ | exact ⟨putFar N1.out m1, putFar N1.out m2⟩ | exact ⟨(q10.alloc _).drew.is (w7.heap.size + 1 + 1) 2 24 #[.int .i64 1, .slice (some ⟨w7.heap.size + 1, 0, none⟩) 3 3] (by simp) 0 (by decide) (Value.int .i64 twiceN.n) rfl, (q10.alloc _).drew.is (w7.heap.size + 1 + 1) 2 24 #[.int .i64 1, .slice (some ⟨w7.heap.size + 1, 0, none⟩) 3 3] (by simp) 1 (by decide) (Value.slice (some ⟨w7.heap.size + 1, 0, none⟩) twiceN.l.length 3) rfl⟩ | exact ⟨(q6.alloc _).is (w7.heap.size + 1 + 1) 2 24 #[.int .i64 1, .slice (some ⟨w7.heap.size + 1, 0, none⟩) 3 3] (by simp) 0 (by decide) (Value.int .i64 twiceN.n) rfl, (q6.alloc _).is (w7.heap.size + 1 + 1) 2 24 #[.int .i64 1, .slice (some ⟨w7.heap.size + 1, 0, none⟩) 3 3] (by simp) 1 (by decide) (Value.slice (some ⟨w7.heap.size + 1, 0, none⟩) twiceN.l.length 3) rfl⟩ | go_keep)
              (first
                | (go_simp
                   go_at_call 20
                   (with_reducible first | refine (kc_of1 _).mono ?_)
                   rintro e w9 ⟨rfl, hb9⟩
                   first
                     | (replace q6 := q6.below hb9
                        try replace hz6 := rowBelow hz6 hb9)
                     | (have hz6 := rowBelow hz hb9
                        have hX6 := hX0
                        have N1 := Lib.hid (Ne.symm (hX6.2 (w7.heap.size + 1 + 1, 24, 2, #[.int .i64 1, .slice (some ⟨w7.heap.size + 1, 0, none⟩) 3 3]) (by simp)))
                        replace q6 := (q10.alloc _).drew.below hb9)
                     | (have hX6 := q6.fresh
                        have N1 := Lib.hid (Ne.symm (hX6.2 (w7.heap.size + 1 + 1, 24, 2, #[.int .i64 1, .slice (some ⟨w7.heap.size + 1, 0, none⟩) 3 3]) (by simp)))
                        have hz6 := rowBelow (arrNew _ #[.int .u64 0, .int .u64 0] 27 _ 2 rfl rfl) hb9
                        replace q6 := (q6.alloc _).below hb9)
                   have m1 := q6.is (w7.heap.size + 1 + 1) 2 24 #[.int .i64 1, .slice (some ⟨w7.heap.size + 1, 0, none⟩) 3 3] (by simp) 0 (by decide) (Value.int .i64 twiceN.n) rfl
                   have m2 := q6.is (w7.heap.size + 1 + 1) 2 24 #[.int .i64 1, .slice (some ⟨w7.heap.size + 1, 0, none⟩) 3 3] (by simp) 1 (by decide) (Value.slice (some ⟨w7.heap.size + 1, 0, none⟩) twiceN.l.length 3) rfl
                   try have z1 := hz6.frozen 0
                   try have z2 := hz6.frozen 1
                   try have z3 := hz6.cell (i := 0) (by omega)
                   try have z4 := hz6.cell (i := 1) (by omega))
                | (go_simp
                   go_at_call 23
                   (with_reducible first | refine (kc_atT _ (w7.heap.size + 1) (HN2.out _ q6.base) (HTS.out _ q6.base)).mono ?_ | refine (kc_atT _ (w7.heap.size + 1) (HN2.out _ (q10.alloc _).drew.base) (HTS.out _ (q10.alloc _).drew.base)).mono ?_ | refine (kc_atT _ (w7.heap.size + 1) (HN2.out _ (q6.alloc _).base) (HTS.out _ (q6.alloc _).base)).mono ?_)
                   rintro e w9 ⟨rfl, hb9⟩
                   first
                     | (replace q6 := q6.below hb9
                        try replace hz6 := rowBelow hz6 hb9)
                     | (have hz6 := rowBelow hz hb9
                        have hX6 := hX0
                        have N1 := Lib.hid (Ne.symm (hX6.2 (w7.heap.size + 1 + 1, 24, 2, #[.int .i64 1, .slice (some ⟨w7.heap.size + 1, 0, none⟩) 3 3]) (by simp)))
                        replace q6 := (q10.alloc _).drew.below hb9)
                     | (have hX6 := q6.fresh
                        have N1 := Lib.hid (Ne.symm (hX6.2 (w7.heap.size + 1 + 1, 24, 2, #[.int .i64 1, .slice (some ⟨w7.heap.size + 1, 0, none⟩) 3 3]) (by simp)))
                        have hz6 := rowBelow (arrNew _ #[.int .u64 0, .int .u64 0] 27 _ 2 rfl rfl) hb9
                        replace q6 := (q6.alloc _).below hb9)
                   have m1 := q6.is (w7.heap.size + 1 + 1) 2 24 #[.int .i64 1, .slice (some ⟨w7.heap.size + 1, 0, none⟩) 3 3] (by simp) 0 (by decide) (Value.int .i64 twiceN.n) rfl
                   have m2 := q6.is (w7.heap.size + 1 + 1) 2 24 #[.int .i64 1, .slice (some ⟨w7.heap.size + 1, 0, none⟩) 3 3] (by simp) 1 (by decide) (Value.slice (some ⟨w7.heap.size + 1, 0, none⟩) twiceN.l.length 3) rfl
                   try have z1 := hz6.frozen 0
                   try have z2 := hz6.frozen 1
                   try have z3 := hz6.cell (i := 0) (by omega)
                   try have z4 := hz6.cell (i := 1) (by omega)))
            all_goals
              try go_wp2
              go_meet
              case rel =>
                first
                  | exact ⟨_, rfl, rfl, rfl, q6.new _ _ _ _ rfl rfl⟩
                  | exact ⟨_, rfl, rfl, rfl, ((q6.other hX6.1 hX6.2 _ _).other hX6.1 hX6.2 _ _).cons (pairRow hz6 _ _)⟩
          case rest =>
            obtain ⟨BA, rfl, rfl, rfl, qn⟩ := hcut
            have m1 := qn.is w1.heap.size 2 24 #[.int .i64 sampN.n, .slice (some ⟨g, 0, none⟩) sampN.l.length 7] (by simp) 0 (by decide) (.int .i64 sampN.n) rfl
            have m2 := qn.is w1.heap.size 2 24 #[.int .i64 sampN.n, .slice (some ⟨g, 0, none⟩) sampN.l.length 7] (by simp) 1 (by decide) (.slice (some ⟨g, 0, none⟩) sampN.l.length 7) rfl
            go_wp2_with fail
            refine (kc_seek8 _ g (HNS.out _ qn.base) (HTS.out _ qn.base)).mono ?_
            rintro e v1 ⟨rfl, hv1⟩
            have q4 := (qn.below hv1).alloc (.cells #[.int .u64 0, .int .u64 0] 27)
            clear qn m1 m2 q10
            go_wp2_with fail
            refine (lit_any _ _).mono ?_
            rintro e v2 ⟨rfl, hv2⟩
            have q5 := ((q4.below hv2).new #[.int .i64 0, .int .i64 0] 3 v2.heap.size 2 rfl rfl).new #[.int .i64 2, .int .i64 1, .slice none 0 0, .int .i64 3, .int .i64 0, .slice (some ⟨v2.heap.size, 0, none⟩) 2 2] 41 (v2.heap.size + 1) 6 (by simp) rfl
            have hg2 := gapN_at (B := v2.heap.size + 1 + 1) (by omega) (by omega) q5.tail.row0 q5.row0
            go_wp2_with fail
            refine (kc_rankG _ (v2.heap.size + 1) (hg2.more (by simp)) (HTS.out _ q5.base)).mono ?_
            rintro e v3 ⟨rfl, hv3⟩
            have q6 := (q5.below hv3).tail.tail.alloc (.cells #[.string (natB 0)] 43)
            clear q4 q5 hg2
            have q7 := q6.new #[.int .i64 0, .int .i64 0, .slice none 0 0] 41 (v3.heap.size + 1) 3 (by simp) rfl
            have hg3 := falseN_at (B := v3.heap.size + 1 + 1) (by omega) q7.row0
            go_wp2_with fail
            refine (kc_seekF _ (v3.heap.size + 1) (hg3.more (by simp)) (HTS.out _ q7.base)).mono ?_
            rintro e v4 ⟨rfl, hv4⟩
            have q8 := (q7.below hv4).tail.new #[.int .u64 0, .int .u64 0] 27 v4.heap.size 2 rfl rfl
            clear q6 q7 hg3
            have he0 : ∀ w, (Op.equalIn 10000 43 (.agg #[.string (natB 0)]) (.agg #[.string (natB 0)])).run Tryd.prog w = .ok true w := fun w => (eq_nats 0 0 w).trans (by rw [decide_eq_true rfl])
            have he1 : ∀ w, (Op.equalIn 10000 27 (.agg #[.int .u64 1, .int .u64 0]) (.agg #[.int .u64 1, .int .u64 0])).run Tryd.prog w = .ok true w := fun w => by rw [eq_set]; rfl
            have he2 : ∀ w, (Op.equalIn 10000 27 (.agg #[.int .u64 0, .int .u64 0]) (.agg #[.int .u64 0, .int .u64 0])).run Tryd.prog w = .ok true w := fun w => by rw [eq_set]; rfl
            go_wp2_with fail
            have q9 := q8.drew
            have y1 := q9.is w8.heap.size 1 43 #[.string (natB 0)] (by simp) 0 (by decide) (.string (natB 0)) rfl
            have y2 := q9.is BA 2 27 #[.int .u64 1, .int .u64 0] (by simp) 0 (by decide) (.int .u64 1) rfl
            have y3 := q9.is BA 2 27 #[.int .u64 1, .int .u64 0] (by simp) 1 (by decide) (.int .u64 0) rfl
            have y4 := q9.is v4.heap.size 2 27 #[.int .u64 0, .int .u64 0] (by simp) 0 (by decide) (.int .u64 0) rfl
            have y5 := q9.is v4.heap.size 2 27 #[.int .u64 0, .int .u64 0] (by simp) 1 (by decide) (.int .u64 0) rfl
            refine wp_region_heldE (fun w' => w'.cell? ⟨w8.heap.size, 0, none⟩ = some (Value.string (natB 0)) ∧ w'.cell? ⟨BA, 0, none⟩ = some (Value.int .u64 1) ∧ w'.cell? ⟨BA, 1, none⟩ = some (Value.int .u64 0) ∧ w'.cell? ⟨v4.heap.size, 0, none⟩ = some (Value.int .u64 0) ∧ w'.cell? ⟨v4.heap.size, 1, none⟩ = some (Value.int .u64 0)) 43 (by kernel_rfl) ⟨y1, y2, y3, y4, y5⟩ (fun hS => ?_)
            refine wpAnyE_take (i := 0) (v := ?_) hS (by kernel_rfl) rfl (by kernel_rfl) (by kernel_rfl) (fun _ _ _ h => h) (Or.inl ⟨by rfl, ?_⟩) ?_
            rotate_left
            · (intro w hSw; go_simp; try with_reducible rfl)
            try simp only [Act.put, List.getElem_toArray, List.getElem_cons_succ, List.getElem_cons_zero, List.setIfInBounds_toArray, List.set_cons_zero, List.set_cons_succ]
            refine wpAnyE_one 1 (by kernel_rfl) rfl (fun K hK => ?_)
            go_simp
            go_at_call 20
            (with_reducible refine (kc_of0 _).mono ?_)
            rintro e v6 ⟨rfl, hv6⟩
            replace q9 := q9.below hv6
            have y1 := q9.is w8.heap.size 1 43 #[.string (natB 0)] (by simp) 0 (by decide) (.string (natB 0)) rfl
            have y2 := q9.is BA 2 27 #[.int .u64 1, .int .u64 0] (by simp) 0 (by decide) (.int .u64 1) rfl
            have y3 := q9.is BA 2 27 #[.int .u64 1, .int .u64 0] (by simp) 1 (by decide) (.int .u64 0) rfl
            have y4 := q9.is v4.heap.size 2 27 #[.int .u64 0, .int .u64 0] (by simp) 0 (by decide) (.int .u64 0) rfl
            have y5 := q9.is v4.heap.size 2 27 #[.int .u64 0, .int .u64 0] (by simp) 1 (by decide) (.int .u64 0) rfl
            refine hK.out _ _ (fun _ => ⟨y1, y2, y3, y4, y5⟩) (fun hS => ?_)
            replace hS := hS (by decide)
            clear hK K
            try simp only [Act.put, List.getElem_toArray, List.getElem_cons_succ, List.getElem_cons_zero, List.setIfInBounds_toArray, List.set_cons_zero, List.set_cons_succ]
            refine wpAnyE_take (i := 2) (v := ?_) hS (by kernel_rfl) rfl (by kernel_rfl) (by kernel_rfl) (fun _ _ _ h => h) (Or.inl ⟨by rfl, ?_⟩) ?_
            rotate_left
            · (intro w hSw; go_simp; try with_reducible rfl)
            try simp only [Act.put, List.getElem_toArray, List.getElem_cons_succ, List.getElem_cons_zero, List.setIfInBounds_toArray, List.set_cons_zero, List.set_cons_succ]
            refine wpAnyE_take (i := 3) (v := ?_) hS (by kernel_rfl) rfl (by kernel_rfl) (by kernel_rfl) (fun _ _ _ h => h) (Or.inl ⟨by rfl, ?_⟩) ?_
            rotate_left
            · (intro w hSw; go_simp; try with_reducible rfl)
            try simp only [Act.put, List.getElem_toArray, List.getElem_cons_succ, List.getElem_cons_zero, List.setIfInBounds_toArray, List.set_cons_zero, List.set_cons_succ]
            refine wpAnyE_take (i := 4) (v := ?_) hS (by kernel_rfl) rfl (by kernel_rfl) (by kernel_rfl) (fun _ _ _ h => h) (Or.inl ⟨by rfl, ?_⟩) ?_
            rotate_left
            · (intro w hSw; go_simp; try with_reducible rfl)
            try simp only [Act.put, List.getElem_toArray, List.getElem_cons_succ, List.getElem_cons_zero, List.setIfInBounds_toArray, List.set_cons_zero, List.set_cons_succ]
            refine wpAnyE_take (i := 5) (v := ?_) hS (by kernel_rfl) rfl (by kernel_rfl) (by kernel_rfl) (fun _ _ _ h => h) (Or.inl ⟨by rfl, ?_⟩) ?_
            rotate_left
            · (intro w hSw; go_simp; try with_reducible rfl)
            try simp only [Act.put, List.getElem_toArray, List.getElem_cons_succ, List.getElem_cons_zero, List.setIfInBounds_toArray, List.set_cons_zero, List.set_cons_succ]
            refine wpAnyE_take (i := 6) (v := ?_) hS (by kernel_rfl) rfl (by kernel_rfl) (by kernel_rfl) (fun _ _ _ h => h) (Or.inl ⟨by rfl, ?_⟩) ?_
            rotate_left
            · (intro w hSw; go_simp; try with_reducible rfl)
            try simp only [Act.put, List.getElem_toArray, List.getElem_cons_succ, List.getElem_cons_zero, List.setIfInBounds_toArray, List.set_cons_zero, List.set_cons_succ]
            refine wpAnyE_take (i := 7) (v := ?_) hS (by kernel_rfl) rfl (by kernel_rfl) (by kernel_rfl) (fun _ _ _ h => h) (Or.inl ⟨by rfl, ?_⟩) ?_
            rotate_left
            · (intro w hSw; go_simp; try with_reducible rfl)
            try simp only [Act.put, List.getElem_toArray, List.getElem_cons_succ, List.getElem_cons_zero, List.setIfInBounds_toArray, List.set_cons_zero, List.set_cons_succ]
            refine wpAnyE_take (i := 8) (v := ?_) hS (by kernel_rfl) rfl (by kernel_rfl) (by kernel_rfl) (fun _ _ _ h => h) (Or.inl ⟨by rfl, ?_⟩) ?_
            rotate_left
            · (intro w hSw; go_simp; try with_reducible rfl)
            try simp only [Act.put, List.getElem_toArray, List.getElem_cons_succ, List.getElem_cons_zero, List.setIfInBounds_toArray, List.set_cons_zero, List.set_cons_succ]
            refine wpAnyE_take (i := 9) (v := ?_) hS (by kernel_rfl) rfl (by kernel_rfl) (by kernel_rfl) (fun _ _ _ h => h) (Or.inl ⟨by rfl, ?_⟩) ?_
            rotate_left
            · (intro w hSw; go_simp; try with_reducible rfl)
            try simp only [Act.put, List.getElem_toArray, List.getElem_cons_succ, List.getElem_cons_zero, List.setIfInBounds_toArray, List.set_cons_zero, List.set_cons_succ]
            refine wpAnyE_take (i := 10) (v := ?_) hS (by kernel_rfl) rfl (by kernel_rfl) (by kernel_rfl) (fun _ _ _ h => h) (Or.inl ⟨by rfl, ?_⟩) ?_
            rotate_left
            · (intro w hSw; go_simp; try with_reducible rfl)
            try simp only [Act.put, List.getElem_toArray, List.getElem_cons_succ, List.getElem_cons_zero, List.setIfInBounds_toArray, List.set_cons_zero, List.set_cons_succ]
            refine wpAnyE_take (i := 11) (v := ?_) hS (by kernel_rfl) rfl (by kernel_rfl) (by kernel_rfl) (fun _ _ _ h => h) (Or.inl ⟨by rfl, ?_⟩) ?_
            rotate_left
            · (intro w hSw; go_simp; try with_reducible rfl)
            try simp only [Act.put, List.getElem_toArray, List.getElem_cons_succ, List.getElem_cons_zero, List.setIfInBounds_toArray, List.set_cons_zero, List.set_cons_succ]
            refine wpAnyE_take (i := 12) (v := ?_) hS (by kernel_rfl) rfl (by kernel_rfl) (by kernel_rfl) (fun _ _ _ h => h) (Or.inl ⟨by rfl, ?_⟩) ?_
            rotate_left
            · (intro w hSw; go_simp; try with_reducible rfl)
            try simp only [Act.put, List.getElem_toArray, List.getElem_cons_succ, List.getElem_cons_zero, List.setIfInBounds_toArray, List.set_cons_zero, List.set_cons_succ]
            refine wpAnyE_take (i := 13) (v := ?_) hS (by kernel_rfl) rfl (by kernel_rfl) (by kernel_rfl) (fun _ _ _ h => h) (Or.inl ⟨by rfl, ?_⟩) ?_
            rotate_left
            · (intro w hSw; go_simp; try with_reducible rfl)
            try simp only [Act.put, List.getElem_toArray, List.getElem_cons_succ, List.getElem_cons_zero, List.setIfInBounds_toArray, List.set_cons_zero, List.set_cons_succ]
            refine wpAnyE_take (i := 14) (v := ?_) hS (by kernel_rfl) rfl (by kernel_rfl) (by kernel_rfl) (fun _ _ _ h => h) (Or.inl ⟨by rfl, ?_⟩) ?_
            rotate_left
            · (intro w hSw; go_simp; try with_reducible rfl)
            try simp only [Act.put, List.getElem_toArray, List.getElem_cons_succ, List.getElem_cons_zero, List.setIfInBounds_toArray, List.set_cons_zero, List.set_cons_succ]
            refine wpAnyE_take (i := 15) (v := ?_) hS (by kernel_rfl) rfl (by kernel_rfl) (by kernel_rfl) (fun _ _ _ h => h) (Or.inl ⟨by rfl, ?_⟩) ?_
            rotate_left
            · (intro w hSw; go_simp; try with_reducible rfl)
            try simp only [Act.put, List.getElem_toArray, List.getElem_cons_succ, List.getElem_cons_zero, List.setIfInBounds_toArray, List.set_cons_zero, List.set_cons_succ]
            refine wpAnyE_take (i := 16) (v := ?_) hS (by kernel_rfl) rfl (by kernel_rfl) (by kernel_rfl) (fun _ _ _ h => h) (Or.inl ⟨by rfl, ?_⟩) ?_
            rotate_left
            · (intro w hSw; go_simp; try with_reducible rfl)
            try simp only [Act.put, List.getElem_toArray, List.getElem_cons_succ, List.getElem_cons_zero, List.setIfInBounds_toArray, List.set_cons_zero, List.set_cons_succ]
            refine wpAnyE_take (i := 17) (v := ?_) hS (by kernel_rfl) rfl (by kernel_rfl) (by kernel_rfl) (fun _ _ _ h => h) (Or.inl ⟨by rfl, ?_⟩) ?_
            rotate_left
            · (intro w hSw; go_simp; try with_reducible rfl)
            try simp only [Act.put, List.getElem_toArray, List.getElem_cons_succ, List.getElem_cons_zero, List.setIfInBounds_toArray, List.set_cons_zero, List.set_cons_succ]
            refine wpAnyE_take (i := 18) (v := ?_) hS (by kernel_rfl) rfl (by kernel_rfl) (by kernel_rfl) (fun _ _ _ h => h) (Or.inl ⟨by rfl, ?_⟩) ?_
            rotate_left
            · (intro w hSw; go_simp; try with_reducible rfl)
            try simp only [Act.put, List.getElem_toArray, List.getElem_cons_succ, List.getElem_cons_zero, List.setIfInBounds_toArray, List.set_cons_zero, List.set_cons_succ]
            refine wpAnyE_take (i := 19) (v := ?_) hS (by kernel_rfl) rfl (by kernel_rfl) (by kernel_rfl) (fun _ _ _ h => h) (Or.inl ⟨by rfl, ?_⟩) ?_
            rotate_left
            · (intro w hSw; go_simp; try with_reducible rfl)
            try simp only [Act.put, List.getElem_toArray, List.getElem_cons_succ, List.getElem_cons_zero, List.setIfInBounds_toArray, List.set_cons_zero, List.set_cons_succ]
            refine wpAnyE_take (i := 20) (v := ?_) hS (by kernel_rfl) rfl (by kernel_rfl) (by kernel_rfl) (fun _ _ _ h => h) (Or.inl ⟨by rfl, ?_⟩) ?_
            rotate_left
            · (intro w hSw; go_simp; try with_reducible rfl)
            try simp only [Act.put, List.getElem_toArray, List.getElem_cons_succ, List.getElem_cons_zero, List.setIfInBounds_toArray, List.set_cons_zero, List.set_cons_succ]
            refine wpAnyE_take (i := 21) (v := ?_) hS (by kernel_rfl) rfl (by kernel_rfl) (by kernel_rfl) (fun _ _ _ h => h) (Or.inl ⟨by rfl, ?_⟩) ?_
            rotate_left
            · (intro w hSw; go_simp; try with_reducible rfl)
            try simp only [Act.put, List.getElem_toArray, List.getElem_cons_succ, List.getElem_cons_zero, List.setIfInBounds_toArray, List.set_cons_zero, List.set_cons_succ]
            refine wpAnyE_take (i := 22) (v := ?_) hS (by kernel_rfl) rfl (by kernel_rfl) (by kernel_rfl) (fun _ _ _ h => h) (Or.inl ⟨by rfl, ?_⟩) ?_
            rotate_left
            · (intro w hSw; go_simp; try with_reducible rfl)
            try simp only [Act.put, List.getElem_toArray, List.getElem_cons_succ, List.getElem_cons_zero, List.setIfInBounds_toArray, List.set_cons_zero, List.set_cons_succ]
            refine wpAnyE_take (i := 23) (v := ?_) hS (by kernel_rfl) rfl (by kernel_rfl) (by kernel_rfl) (fun _ _ _ h => h) (Or.inl ⟨by rfl, ?_⟩) ?_
            rotate_left
            · (intro w hSw; go_simp; try with_reducible rfl)
            try simp only [Act.put, List.getElem_toArray, List.getElem_cons_succ, List.getElem_cons_zero, List.setIfInBounds_toArray, List.set_cons_zero, List.set_cons_succ]
            refine wpAnyE_take (i := 24) (v := ?_) hS (by kernel_rfl) rfl (by kernel_rfl) (by kernel_rfl) (fun _ _ _ h => h) (Or.inl ⟨by rfl, ?_⟩) ?_
            rotate_left
            · (intro w hSw; go_simp; try with_reducible rfl)
            try simp only [Act.put, List.getElem_toArray, List.getElem_cons_succ, List.getElem_cons_zero, List.setIfInBounds_toArray, List.set_cons_zero, List.set_cons_succ]
            refine wpAnyE_take (i := 25) (v := ?_) hS (by kernel_rfl) rfl (by kernel_rfl) (by kernel_rfl) (fun _ _ _ h => h) (Or.inl ⟨by rfl, ?_⟩) ?_
            rotate_left
            · (intro w hSw; go_simp; try with_reducible rfl)
            try simp only [Act.put, List.getElem_toArray, List.getElem_cons_succ, List.getElem_cons_zero, List.setIfInBounds_toArray, List.set_cons_zero, List.set_cons_succ]
            refine wpAnyE_take (i := 26) (v := ?_) hS (by kernel_rfl) rfl (by kernel_rfl) (by kernel_rfl) (fun _ _ _ h => h) (Or.inl ⟨by rfl, ?_⟩) ?_
            rotate_left
            · (intro w hSw; go_simp; try with_reducible rfl)
            try simp only [Act.put, List.getElem_toArray, List.getElem_cons_succ, List.getElem_cons_zero, List.setIfInBounds_toArray, List.set_cons_zero, List.set_cons_succ]
            refine wpAnyE_take (i := 27) (v := ?_) hS (by kernel_rfl) rfl (by kernel_rfl) (by kernel_rfl) (fun _ _ _ h => h) (Or.inl ⟨by rfl, ?_⟩) ?_
            rotate_left
            · (intro w hSw; go_simp; try with_reducible rfl)
            try simp only [Act.put, List.getElem_toArray, List.getElem_cons_succ, List.getElem_cons_zero, List.setIfInBounds_toArray, List.set_cons_zero, List.set_cons_succ]
            refine wpAnyE_take (i := 28) (v := ?_) hS (by kernel_rfl) rfl (by kernel_rfl) (by kernel_rfl) (fun _ _ _ h => h) (Or.inl ⟨by rfl, ?_⟩) ?_
            rotate_left
            · (intro w hSw; go_simp; try with_reducible rfl)
            try simp only [Act.put, List.getElem_toArray, List.getElem_cons_succ, List.getElem_cons_zero, List.setIfInBounds_toArray, List.set_cons_zero, List.set_cons_succ]
            refine wpAnyE_take (i := 29) (v := ?_) hS (by kernel_rfl) rfl (by kernel_rfl) (by kernel_rfl) (fun _ _ _ h => h) (Or.inl ⟨by rfl, ?_⟩) ?_
            rotate_left
            · (intro w hSw; go_simp; try with_reducible rfl)
            try simp only [Act.put, List.getElem_toArray, List.getElem_cons_succ, List.getElem_cons_zero, List.setIfInBounds_toArray, List.set_cons_zero, List.set_cons_succ]
            refine wpAnyE_take (i := 30) (v := ?_) hS (by kernel_rfl) rfl (by kernel_rfl) (by kernel_rfl) (fun _ _ _ h => h) (Or.inl ⟨by rfl, ?_⟩) ?_
            rotate_left
            · (intro w hSw; go_simp; try with_reducible rfl)
            try simp only [Act.put, List.getElem_toArray, List.getElem_cons_succ, List.getElem_cons_zero, List.setIfInBounds_toArray, List.set_cons_zero, List.set_cons_succ]
            refine wpAnyE_take (i := 31) (v := ?_) hS (by kernel_rfl) rfl (by kernel_rfl) (by kernel_rfl) (fun _ _ _ h => h) (Or.inl ⟨by rfl, ?_⟩) ?_
            rotate_left
            · (intro w hSw; go_simp; try with_reducible rfl)
            try simp only [Act.put, List.getElem_toArray, List.getElem_cons_succ, List.getElem_cons_zero, List.setIfInBounds_toArray, List.set_cons_zero, List.set_cons_succ]
            refine wpAnyE_take (i := 32) (v := ?_) hS (by kernel_rfl) rfl (by kernel_rfl) (by kernel_rfl) (fun _ _ _ h => h) (Or.inl ⟨by rfl, ?_⟩) ?_
            rotate_left
            · (intro w hSw; go_simp; try with_reducible rfl)
            try simp only [Act.put, List.getElem_toArray, List.getElem_cons_succ, List.getElem_cons_zero, List.setIfInBounds_toArray, List.set_cons_zero, List.set_cons_succ]
            refine wpAnyE_take (i := 33) (v := ?_) hS (by kernel_rfl) rfl (by kernel_rfl) (by kernel_rfl) (fun _ _ _ h => h) (Or.inl ⟨by rfl, ?_⟩) ?_
            rotate_left
            · (intro w hSw; go_simp; try with_reducible rfl)
            try simp only [Act.put, List.getElem_toArray, List.getElem_cons_succ, List.getElem_cons_zero, List.setIfInBounds_toArray, List.set_cons_zero, List.set_cons_succ]
            refine wpAnyE_take (i := 34) (v := ?_) hS (by kernel_rfl) rfl (by kernel_rfl) (by kernel_rfl) (fun _ _ _ h => h) (Or.inl ⟨by rfl, ?_⟩) ?_
            rotate_left
            · (intro w hSw; go_simp; try with_reducible rfl)
            try simp only [Act.put, List.getElem_toArray, List.getElem_cons_succ, List.getElem_cons_zero, List.setIfInBounds_toArray, List.set_cons_zero, List.set_cons_succ]
            refine wpAnyE_take (i := 35) (v := ?_) hS (by kernel_rfl) rfl (by kernel_rfl) (by kernel_rfl) (fun _ _ _ h => h) (Or.inl ⟨by rfl, ?_⟩) ?_
            rotate_left
            · (intro w hSw; go_simp; try with_reducible rfl)
            try simp only [Act.put, List.getElem_toArray, List.getElem_cons_succ, List.getElem_cons_zero, List.setIfInBounds_toArray, List.set_cons_zero, List.set_cons_succ]
            refine wpAnyE_take (i := 36) (v := ?_) hS (by kernel_rfl) rfl (by kernel_rfl) (by kernel_rfl) (fun _ _ _ h => h) (Or.inl ⟨by rfl, ?_⟩) ?_
            rotate_left
            · (intro w hSw; go_simp; try with_reducible rfl)
            try simp only [Act.put, List.getElem_toArray, List.getElem_cons_succ, List.getElem_cons_zero, List.setIfInBounds_toArray, List.set_cons_zero, List.set_cons_succ]
            refine wpAnyE_take (i := 37) (v := ?_) hS (by kernel_rfl) rfl (by kernel_rfl) (by kernel_rfl) (fun _ _ _ h => h) (Or.inl ⟨by rfl, ?_⟩) ?_
            rotate_left
            · (intro w hSw; go_simp; try with_reducible rfl)
            try simp only [Act.put, List.getElem_toArray, List.getElem_cons_succ, List.getElem_cons_zero, List.setIfInBounds_toArray, List.set_cons_zero, List.set_cons_succ]
            refine wpAnyE_take (i := 38) (v := ?_) hS (by kernel_rfl) rfl (by kernel_rfl) (by kernel_rfl) (fun _ _ _ h => h) (Or.inl ⟨by rfl, ?_⟩) ?_
            rotate_left
            · (intro w hSw; go_simp; try with_reducible rfl)
            try simp only [Act.put, List.getElem_toArray, List.getElem_cons_succ, List.getElem_cons_zero, List.setIfInBounds_toArray, List.set_cons_zero, List.set_cons_succ]
            refine wpAnyE_take (i := 39) (v := ?_) hS (by kernel_rfl) rfl (by kernel_rfl) (by kernel_rfl) (fun _ _ _ h => h) (Or.inl ⟨by rfl, ?_⟩) ?_
            rotate_left
            · (intro w hSw; go_simp; try with_reducible rfl)
            try simp only [Act.put, List.getElem_toArray, List.getElem_cons_succ, List.getElem_cons_zero, List.setIfInBounds_toArray, List.set_cons_zero, List.set_cons_succ]
            refine wpAnyE_take (i := 40) (v := ?_) hS (by kernel_rfl) rfl (by kernel_rfl) (by kernel_rfl) (fun _ _ _ h => h) (Or.inl ⟨by rfl, ?_⟩) ?_
            rotate_left
            · (intro w hSw; go_simp; try with_reducible rfl)
            try simp only [Act.put, List.getElem_toArray, List.getElem_cons_succ, List.getElem_cons_zero, List.setIfInBounds_toArray, List.set_cons_zero, List.set_cons_succ]
            refine wpAnyE_one 41 (by kernel_rfl) rfl (fun K hK => ?_)
            go_simp
            go_at_call 13
            (with_reducible refine (works_any _ (HTS.out _ q9.base)).mono ?_)
            rintro e v7 ⟨rfl, hv7⟩
            replace q9 := q9.below hv7
            have y1 := q9.is w8.heap.size 1 43 #[.string (natB 0)] (by simp) 0 (by decide) (.string (natB 0)) rfl
            have y2 := q9.is BA 2 27 #[.int .u64 1, .int .u64 0] (by simp) 0 (by decide) (.int .u64 1) rfl
            have y3 := q9.is BA 2 27 #[.int .u64 1, .int .u64 0] (by simp) 1 (by decide) (.int .u64 0) rfl
            have y4 := q9.is v4.heap.size 2 27 #[.int .u64 0, .int .u64 0] (by simp) 0 (by decide) (.int .u64 0) rfl
            have y5 := q9.is v4.heap.size 2 27 #[.int .u64 0, .int .u64 0] (by simp) 1 (by decide) (.int .u64 0) rfl
            refine hK.out _ _ (fun _ => ⟨y1, y2, y3, y4, y5⟩) (fun hS => ?_)
            replace hS := hS (by decide)
            clear hK K
            try simp only [Act.put, List.getElem_toArray, List.getElem_cons_succ, List.getElem_cons_zero, List.setIfInBounds_toArray, List.set_cons_zero, List.set_cons_succ]
            refine wpAnyE_take (i := 42) (v := ?_) hS (by kernel_rfl) rfl (by kernel_rfl) (by kernel_rfl) (fun _ _ _ h => h) (Or.inl ⟨by rfl, ?_⟩) ?_
            rotate_left
            · (intro w hSw; go_simp; try with_reducible rfl)
            try simp only [Act.put, List.getElem_toArray, List.getElem_cons_succ, List.getElem_cons_zero, List.setIfInBounds_toArray, List.set_cons_zero, List.set_cons_succ]
            refine wpAnyE_one 43 (by kernel_rfl) rfl (fun K hK => ?_)
            go_simp
            refine hK.out _ _ (fun h => absurd rfl h) (fun _ => ?_)
            clear hK K
            refine wpAnyE_done (by kernel_rfl) ?_ _
            go_wp2
            go_ret
            exact ⟨rfl, q9.bl⟩
end Go.Proofs.YtemgfhdgpkmmaaaDoor
