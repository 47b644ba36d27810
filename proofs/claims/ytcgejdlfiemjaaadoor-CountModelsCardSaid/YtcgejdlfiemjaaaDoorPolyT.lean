/- The walk of count.times. -/
import Derived.Test.YtcgejdlfiemjaaaDoorP1
import Derived.Test.YtcgejdlfiemjaaaDoorM1
set_option linter.unusedSimpArgs false
set_option linter.unusedVariables false
open Go Go.RowKit Cs
namespace Go.Proofs.YtcgejdlfiemjaaaDoor
set_option maxRecDepth 100000 in
set_option maxHeartbeats 2000000 in
theorem times_nil (w : World) (A B : Option Addr) (ca cb la lb : Nat) (h : la = 0 ∨ lb = 0) :
    Calls Tryd.prog 45 #[.slice A la ca, .slice B lb cb] w fun e w' => e = .returned (.slice none 0 0) ∧ Below w.heap.size w w' := by
  by_cases h1 : la = 0
  · have hb : ((la : Int) == 0) = true := beq_iff_eq.2 (by omega)
    clear h h1
    go_enter Tryd.func45, Tryd.ntmps45
    go_wp2
    go_ret
    exact ⟨rfl, Below.refl _ _⟩
  · have hb : ((la : Int) == 0) = false := beq_eq_false_iff_ne.2 (by omega)
    have hb2 : ((lb : Int) == 0) = true := beq_iff_eq.2 (by omega)
    clear h h1
    go_enter Tryd.func45, Tryd.ntmps45
    go_wp2
    go_ret
    exact ⟨rfl, Below.refl _ _⟩
set_option maxRecDepth 100000 in
set_option maxHeartbeats 4000000 in
theorem times_any (w : World) (A B : Option Addr) (ca cb : Nat) (a b : List Nat) (hla : a.length ≤ 100000) (hlb : b.length ≤ 100000) (hla0 : a.length ≠ 0) (hlb0 : b.length ≠ 0) (hA : Rd w w.heap.size A a.length (natsF a)) (hB : Rd w w.heap.size B b.length (natsF b))
    (hea : ev a < big * 2 ^ 200) (heb : ev b < big * 2 ^ 200) (hev : ev a * ev b < big * 2 ^ 200) :
    Calls Tryd.prog 45 #[.slice A a.length ca, .slice B b.length cb] w fun e w' => ∃ g, e = .returned (.slice (some ⟨g, 0, none⟩) (mulP a b).length (mulP a b).length) ∧ w.heap.size ≤ g ∧ w'.rowIs g 28 (mulP a b).length (natsF (mulP a b)) ∧ Below w.heap.size w w' := by
  have hml := mulP_len a b hla0 hlb0
  obtain ⟨n, hn⟩ : ∃ n, (mulP a b).length = n := ⟨_, rfl⟩
  rw [hn] at hml ⊢
  have hmk := mk_nat n (by omega)
  have hsz : (a.length : Int) + (b.length : Int) - 1 = (n : Int) := by omega
  have hb1 : ((a.length : Int) == 0) = false := beq_eq_false_iff_ne.2 (by omega)
  have hb2 : ((b.length : Int) == 0) = false := beq_eq_false_iff_ne.2 (by omega)
  have HA := Lib.hid hA
  have HB := Lib.hid hB
  have HEA := Lib.hid hea
  have HEB := Lib.hid heb
  have HEV := Lib.hid hev
  have HML := Lib.hid hml
  clear hA hB hea heb hev hml hn
  have hrow0 : (w.alloc (.cells (madeCells #[.string ⟨#[]⟩] n) 28)).rowIs w.heap.size 28 n (fun t => .string (natB (cvO a b 0 t))) := (natsMade w n _ _ rfl).congr fun i _ => by unfold natsF; rfl
  have hbl0 : Below w.heap.size w (w.alloc (.cells (madeCells #[.string ⟨#[]⟩] n) 28)) := (Below.refl _ _).alloc (Nat.le_refl _) _
  go_enter Tryd.func45, Tryd.ntmps45
  go_wp2
  go_loopw [27] (fun t wr => ∃ i : Nat, i ≤ a.length ∧ t = .int .i64 i ∧ wr.rowIs w.heap.size 28 n (fun t => .string (natB (cvO a b i t))) ∧ Below w.heap.size w wr) (fun t _ => a.length - (intOf t).toNat)
  case atStart => exact ⟨0, by omega, rfl, hrow0, hbl0⟩
  case round =>
    clear hrow0 hbl0
    obtain ⟨i, hi, rfl, hrow, hbl⟩ := hrel
    by_cases hilt : i < a.length
    · obtain ⟨b1, o1, rfl, hbB1, hcs1⟩ := HA.out (by omega)
      have hc1 := below_cell hbl hbB1 (hcs1 i hilt)
      clear hcs1
      unfold natsF at hc1
      have hle1 := ev_le a i
      obtain ⟨x, hx⟩ : ∃ x, a.getD i 0 = x := ⟨_, rfl⟩
      rw [hx] at hc1 hle1
      have hea := HEA.out
      have hq1 : n8 x ≤ 1000000 := Nat.le_trans (n8_big x (by omega)) (by decide)
      have hq1' : n8 x ≤ 1000 := n8_big x (by omega)
      have HX := Lib.hid hx
      clear hx hle1 hea
      obtain ⟨W0, rfl⟩ : ∃ W0, W0 = wr := ⟨wr, rfl⟩
      have hz0 := hrow.lt
      have hx0 := boxNew W0 (.string (natB x)) 28 _ rfl
      have hr0 := hrow.alloc (.cells #[.string (natB x)] 28)
      have hb0 := hbl.alloc hbl.size (.cells #[.string (natB x)] 28)
      clear hrow hbl
      go_wp2
      go_loopw [34] (fun t wq => ∃ k : Nat, k ≤ b.length ∧ t = .int .i64 k ∧ wq.rowIs W0.heap.size 28 1 (fun _ => .string (natB x)) ∧ wq.rowIs w.heap.size 28 n (fun t => .string (natB (cvI a b i (cvO a b i) k t))) ∧ Below w.heap.size w wq) (fun t _ => b.length - (intOf t).toNat)
      case atStart => exact ⟨0, by omega, rfl, hx0, hr0, hb0⟩
      case round =>
        clear hx0 hr0 hb0
        obtain ⟨k, hk, rfl, hxr, hrow, hbl⟩ := hrel
        have hz := hrow.lt
        have hz1 := hxr.lt
        by_cases hklt : k < b.length
        · obtain ⟨b2, o2, rfl, hbB2, hcs2⟩ := HB.out (by omega)
          have hc2 := below_cell hbl hbB2 (hcs2 k hklt)
          clear hcs2
          unfold natsF at hc2
          have hle2 := ev_le b k
          obtain ⟨y, hy⟩ : ∃ y, b.getD k 0 = y := ⟨_, rfl⟩
          rw [hy] at hc2 hle2
          have heb := HEB.out
          have hq2 : n8 y ≤ 1000000 := Nat.le_trans (n8_big y (by omega)) (by decide)
          have hq2' : n8 y ≤ 1000 := n8_big y (by omega)
          have hq4 : n8 (x * y) ≤ 1000000 := by have := n8_mul x y; omega
          have hle3 := cvI_le a b i k (i + k) hilt hk
          have hml := HML.out
          have hik : i + k < n := by omega
          have hcv : ∀ t, cvI a b i (cvO a b i) (k + 1) t = cvI a b i (cvO a b i) k t + if t = i + k then x * y else 0 := fun t => by
            show cvI a b i (cvO a b i) k t + (if t = i + k then a.getD i 0 * b.getD k 0 else 0) = _
            rw [HX.out, hy]
          obtain ⟨F, hF⟩ : ∃ F, cvI a b i (cvO a b i) k = F := ⟨_, rfl⟩
          rw [hF] at hle3 hrow
          simp only [hF] at hcv
          obtain ⟨s, hs⟩ : ∃ s, F (i + k) = s := ⟨_, rfl⟩
          rw [hs] at hle3
          have hev := HEV.out
          have hq3 : n8 s ≤ 1000000 := Nat.le_trans (n8_big s (by omega)) (by decide)
          have HCV := Lib.hid hcv
          have HS := Lib.hid hs
          have hi1 : (0 : Int) ≤ (i : Int) + (k : Int) := by omega
          have hi2 : (i : Int) + (k : Int) < (n : Int) := by omega
          have hwr : IntKind.i64.wrap ((i : Int) + (k : Int)) = (i : Int) + (k : Int) := by rw [IntKind.wrap_i64]; omega
          have htn : ((i : Int) + (k : Int)).toNat = i + k := by omega
          have HNE1 : Hid (w.heap.size ≠ W0.heap.size) := Lib.hid (by omega)
          have HNE2 : Hid (w.heap.size ≠ wr.heap.size) := Lib.hid (by omega)
          clear hy hle2 heb hle3 hml hcv hF hs hev
          have hx' := (hxr.alloc (.cells #[.string (natB y)] 28)).drew
          have hy' := (boxNew wr (.string (natB y)) 28 _ rfl).drew
          have hrow' := (hrow.alloc (.cells #[.string (natB y)] 28)).drew
          have hbl' := belowDrewN (hbl.alloc hbl.size (.cells #[.string (natB y)] 28)) 1
          change Below _ _ (World.drew _) at hbl'
          have hx1' := boxCell hx'
          have hy1' := boxCell hy'
          have hs1' : _ = some (Value.string (natB s)) := (hrow'.cell (i := i + k) hik).trans (by rw [HS.out])
          have hs2' := hrow'.frozen (i + k)
          have hs0 : wr.cell? ⟨w.heap.size, i + k, none⟩ = some (Value.string (natB s)) := (hrow.cell (i := i + k) hik).trans (by rw [HS.out])
          go_wp2_with fail
          refine wp_region_heldE (fun w' => w'.cell? ⟨w.heap.size, i + k, none⟩ = some (.string (natB s)) ∧ w'.cell? ⟨W0.heap.size, 0, none⟩ = some (.string (natB x)) ∧ w'.cell? ⟨wr.heap.size, 0, none⟩ = some (.string (natB y))) 15 (by kernel_rfl) ⟨hs1', hx1', hy1'⟩ (fun hS => ?_)
          refine wpAnyE_take (i := 0) (v := ?_) hS (by kernel_rfl) rfl (by kernel_rfl) (by kernel_rfl) (fun _ _ _ h => h) (Or.inl ⟨by rfl, ?_⟩) ?_
          rotate_left
          · (intro w hSw; go_simp; try with_reducible rfl)
          try simp only [Act.put, List.setIfInBounds_toArray, List.set_cons_zero, List.set_cons_succ]
          refine wpAnyE_take (i := 1) (v := ?_) hS (by kernel_rfl) rfl (by kernel_rfl) (by kernel_rfl) (fun _ _ _ h => h) (Or.inl ⟨by rfl, ?_⟩) ?_
          rotate_left
          · (intro w hSw; go_simp; try with_reducible rfl)
          try simp only [Act.put, List.setIfInBounds_toArray, List.set_cons_zero, List.set_cons_succ]
          refine wpAnyE_take (i := 2) (v := ?_) hS (by kernel_rfl) rfl (by kernel_rfl) (by kernel_rfl) (fun _ _ _ h => h) (Or.inl ⟨by rfl, ?_⟩) ?_
          rotate_left
          · (intro w hSw; go_simp; try with_reducible rfl)
          try simp only [Act.put, List.setIfInBounds_toArray, List.set_cons_zero, List.set_cons_succ]
          refine wpAnyE_take (i := 3) (v := ?_) hS (by kernel_rfl) rfl (by kernel_rfl) (by kernel_rfl) (fun _ _ _ h => h) (Or.inl ⟨by rfl, ?_⟩) ?_
          rotate_left
          · (intro w hSw; go_simp; try with_reducible rfl)
          try simp only [Act.put, List.setIfInBounds_toArray, List.set_cons_zero, List.set_cons_succ]
          refine wpAnyE_take (i := 4) (v := ?_) hS (by kernel_rfl) rfl (by kernel_rfl) (by kernel_rfl) (fun _ _ _ h => h) (Or.inl ⟨by rfl, ?_⟩) ?_
          rotate_left
          · (intro w hSw; go_simp; try with_reducible rfl)
          try simp only [Act.put, List.setIfInBounds_toArray, List.set_cons_zero, List.set_cons_succ]
          refine wpAnyE_take (i := 5) (v := ?_) hS (by kernel_rfl) rfl (by kernel_rfl) (by kernel_rfl) (fun _ _ _ h => h) (Or.inl ⟨by rfl, ?_⟩) ?_
          rotate_left
          · (intro w hSw; go_simp; try with_reducible rfl)
          try simp only [Act.put, List.setIfInBounds_toArray, List.set_cons_zero, List.set_cons_succ]
          refine wpAnyE_take (i := 6) (v := ?_) hS (by kernel_rfl) rfl (by kernel_rfl) (by kernel_rfl) (fun _ _ _ h => h) (Or.inl ⟨by rfl, ?_⟩) ?_
          rotate_left
          · (intro w hSw; go_simp; try with_reducible rfl)
          try simp only [Act.put, List.setIfInBounds_toArray, List.set_cons_zero, List.set_cons_succ]
          refine wpAnyE_take (i := 7) (v := ?_) hS (by kernel_rfl) rfl (by kernel_rfl) (by kernel_rfl) (fun _ _ _ h => h) (Or.inl ⟨by rfl, ?_⟩) ?_
          rotate_left
          · (intro w hSw; go_simp; try with_reducible rfl)
          try simp only [Act.put, List.setIfInBounds_toArray, List.set_cons_zero, List.set_cons_succ]
          refine wpAnyE_take (i := 8) (v := ?_) hS (by kernel_rfl) rfl (by kernel_rfl) (by kernel_rfl) (fun _ _ _ h => h) (Or.inl ⟨by rfl, ?_⟩) ?_
          rotate_left
          · (intro w hSw; go_simp; try with_reducible rfl)
          try simp only [Act.put, List.setIfInBounds_toArray, List.set_cons_zero, List.set_cons_succ]
          refine wpAnyE_take (i := 9) (v := ?_) hS (by kernel_rfl) rfl (by kernel_rfl) (by kernel_rfl) (fun _ _ _ h => h) (Or.inl ⟨by rfl, ?_⟩) ?_
          rotate_left
          · (intro w hSw; go_simp; try with_reducible rfl)
          try simp only [Act.put, List.setIfInBounds_toArray, List.set_cons_zero, List.set_cons_succ]
          refine wpAnyE_take (i := 10) (v := ?_) hS (by kernel_rfl) rfl (by kernel_rfl) (by kernel_rfl) (fun _ _ _ h => h) (Or.inl ⟨by rfl, ?_⟩) ?_
          rotate_left
          · (intro w hSw; go_simp; try with_reducible rfl)
          try simp only [Act.put, List.setIfInBounds_toArray, List.set_cons_zero, List.set_cons_succ]
          refine wpAnyE_take (i := 11) (v := ?_) hS (by kernel_rfl) rfl (by kernel_rfl) (by kernel_rfl) (fun _ _ _ h => h) (Or.inl ⟨by rfl, ?_⟩) ?_
          rotate_left
          · (intro w hSw; go_simp; try with_reducible rfl)
          try simp only [Act.put, List.setIfInBounds_toArray, List.set_cons_zero, List.set_cons_succ]
          refine wpAnyE_one 12 (by kernel_rfl) rfl (fun K hK => ?_)
          go_simp
          go_at_call 22
          (with_reducible refine (mul_any _ x y hq1 hq2).mono ?_)
          rintro e w9 ⟨rfl, hb9⟩
          replace hx' := rowBelow hx' hb9
          replace hrow' := rowBelow hrow' hb9
          replace hy' := rowBelow hy' hb9
          replace hbl' := Cs.Below.trans' hbl' hb9 hbl'.size
          have hx1' := boxCell hx'
          have hy1' := boxCell hy'
          have hs1' : w9.cell? ⟨w.heap.size, i + k, none⟩ = some (.string (natB s)) := (hrow'.cell (i := i + k) hik).trans (by rw [HS.out])
          have hs2' := hrow'.frozen (i + k)
          refine hK.out _ _ (fun _ => ⟨hs1', hx1', hy1'⟩) (fun hS => ?_)
          replace hS := hS (by decide)
          clear hK K
          try simp only [Act.put, List.setIfInBounds_toArray, List.set_cons_zero, List.set_cons_succ]
          refine wpAnyE_one 13 (by kernel_rfl) rfl (fun K hK => ?_)
          go_simp
          go_at_call 21
          (with_reducible refine (add_any _ s (x * y) hq3 hq4).mono ?_)
          rintro e w9 ⟨rfl, hb9⟩
          replace hx' := rowBelow hx' hb9
          replace hrow' := rowBelow hrow' hb9
          replace hy' := rowBelow hy' hb9
          replace hbl' := Cs.Below.trans' hbl' hb9 hbl'.size
          have hx1' := boxCell hx'
          have hy1' := boxCell hy'
          have hs1' : w9.cell? ⟨w.heap.size, i + k, none⟩ = some (.string (natB s)) := (hrow'.cell (i := i + k) hik).trans (by rw [HS.out])
          have hs2' := hrow'.frozen (i + k)
          refine hK.out _ _ (fun _ => ⟨hs1', hx1', hy1'⟩) (fun hS => ?_)
          replace hS := hS (by decide)
          clear hK K
          try simp only [Act.put, List.setIfInBounds_toArray, List.set_cons_zero, List.set_cons_succ]
          refine wpAnyE_take (i := 14) (v := ?_) hS (by kernel_rfl) rfl (by kernel_rfl) (by kernel_rfl) (fun _ _ _ h => h) (Or.inl ⟨by rfl, ?_⟩) ?_
          rotate_left
          · (intro w hSw; go_simp; try with_reducible rfl)
          try simp only [Act.put, List.setIfInBounds_toArray, List.set_cons_zero, List.set_cons_succ]
          refine wpAnyE_one 15 (by kernel_rfl) rfl (fun K hK => ?_)
          go_simp
          refine hK.out _ _ (fun h => absurd rfl h) (fun _ => ?_)
          clear hK K
          refine wpAnyE_done (by kernel_rfl) ?_ _
          all_goals
            try go_wp2
            go_roundw
            case rel =>
              refine ⟨k + 1, by omega, by go_num, hx'.setOther (by simp; omega) _, (hrow'.set (i + k) _).congr fun t _ => ?_, hbl'.setCell (by simp) _⟩
              rw [HCV.out]
              split
              · subst t; rw [HS.out]
              · rw [Nat.add_zero]
            case measure => simp [intOf]; omega
        · obtain rfl : k = b.length := by omega
          go_wp2
          go_roundw
          case rel => exact ⟨i + 1, by omega, by go_num, hrow, hbl⟩
          case measure => simp [intOf]; omega
    · obtain rfl : i = a.length := by omega
      go_wp2
      go_ret
      refine ⟨w.heap.size, rfl, Nat.le_refl _, hrow.congr fun t _ => ?_, hbl⟩
      unfold natsF
      rw [mulP_get]
end Go.Proofs.YtcgejdlfiemjaaaDoor
