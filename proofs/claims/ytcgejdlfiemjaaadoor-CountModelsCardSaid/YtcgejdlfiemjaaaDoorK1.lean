/- Plain facts: the same nodes over one variable more. The walk of the law CountMore. -/
import Derived.Test.YtcgejdlfiemjaaaDoorByCard
import Derived.Test.YtcgejdlfiemjaaaDoorL1
set_option linter.unusedSimpArgs false
set_option linter.unusedVariables false
/-! Plain facts: the same nodes over one variable more. -/
section
namespace Cs
theorem litOk_more {l n : Int} (h : litOk l n = true) : litOk l (n + 1) = true := by
  unfold litOk at *; simp at *; omega
theorem formed_more {x : Nd} {n b : Int} (h : formed x n b = true) : formed x (n + 1) b = true := by
  unfold formed at *
  split
  · rename_i h0; rw [if_pos h0] at h; exact h
  · rename_i h0
    rw [if_neg h0] at h
    split
    · rename_i h1; rw [if_pos h1] at h; exact h
    · rename_i h1
      rw [if_neg h1] at h
      split
      · rename_i h2
        rw [if_pos h2, Bool.and_eq_true] at h
        rw [litOk_more h.1, h.2]; rfl
      · rename_i h2; rw [if_neg h2] at h; exact h
theorem allFormed_more (n : Int) : ∀ (l : List Nd) (i : Nat), allFormed n i l = true → allFormed (n + 1) i l = true
  | [], _, _ => rfl
  | x :: xs, i, h => by
    unfold allFormed at *
    rw [Bool.and_eq_true] at *
    exact ⟨formed_more h.1, allFormed_more n xs (i + 1) h.2⟩
theorem vld_more {n : Int} {l : List Nd} (h : vld ⟨n, l⟩ = true) (hn : n ≤ 127) : vld ⟨n + 1, l⟩ = true := by
  unfold vld at *
  simp only [Bool.and_eq_true, decide_eq_true_eq] at *
  obtain ⟨⟨h1, h2, h3, h4⟩, h5⟩ := h
  exact ⟨⟨by omega, by omega, h3, h4⟩, allFormed_more n l 0 h5⟩
theorem cchk_more {n : Int} {l : List Nd} (h : cchk ⟨n, l⟩ = 0) (hn : n ≤ 127) : cchk ⟨n + 1, l⟩ = 0 := by
  obtain ⟨h1, h2, h3⟩ := cchk_zero h
  unfold cchk
  rw [vld_more h1 hn, show dcmp ⟨n + 1, l⟩ = true from h2, show shortB ⟨n + 1, l⟩ = true from h3]; rfl
theorem RN0_wide : ∀ (vs : List Int) (x : Nat), (∀ v ∈ vs, 1 ≤ v) → (RN 0).wide x vs = x * 2 ^ vs.length
  | [], x, _ => by simp [Rg.wide]
  | v :: vs, x, h => by
    have hv := h v (List.mem_cons_self ..)
    have e : (RN 0).both v = 2 := by
      show wt 0 v + wt 0 (-v) = 2
      unfold wt; rw [if_neg (by omega), if_neg (by omega)]
    show (RN 0).wide (x * (RN 0).both v) vs = _
    rw [RN0_wide vs _ (fun u hu => h u (List.mem_cons_of_mem _ hu)), e, List.length_cons, Nat.pow_succ, Nat.mul_assoc, Nat.mul_comm 2]
theorem RN0_sum (N : Nt) (hv : vld N = true) : (RN 0).sum N = ((RN 0).all (own N.l) N.l).getD (N.l.length - 1) 0 * 2 ^ (N.n.toNat - crd ((own N.l).getD (N.l.length - 1) 0)) := by
  obtain ⟨hn0, hn1, hl0, hl1⟩ := vld_bounds hv
  have h2 := crd_minus (allTo N.n) ((own N.l).getD (N.l.length - 1) 0) (fun i hi => by
    have := own_sub hv (N.l.length) (N.l.length - 1) (by omega) (by omega) i hi
    rw [allTo_bit]; simp; omega)
  rw [crd_all _ hn0 hn1] at h2
  show (RN 0).wide _ (vl _) = _
  rw [RN0_wide _ _ (fun v hv' => (vl_bounds _ v hv').1), crd_vl]
  rw [show crd (minus (allTo N.n) ((own N.l).getD (N.l.length - 1) 0)) = N.n.toNat - crd ((own N.l).getD (N.l.length - 1) 0) by omega]; rfl
theorem own_crd {N : Nt} (hv : vld N = true) : crd ((own N.l).getD (N.l.length - 1) 0) ≤ N.n.toNat := by
  obtain ⟨hn0, hn1, hl0, hl1⟩ := vld_bounds hv
  have h2 := crd_mono (allTo N.n) ((own N.l).getD (N.l.length - 1) 0) (fun i hi => by
    have := own_sub hv (N.l.length) (N.l.length - 1) (by omega) (by omega) i hi
    rw [allTo_bit]; simp; omega)
  rwa [crd_all _ hn0 hn1] at h2
theorem cntN_more {n : Int} {l : List Nd} (h : cchk ⟨n, l⟩ = 0) (hn : n ≤ 127) : cntN ⟨n + 1, l⟩ = cntN ⟨n, l⟩ * 2 := by
  obtain ⟨h1, h2, h3⟩ := cchk_zero h
  obtain ⟨hn0, hn1, hl0, hl1⟩ := vld_bounds h1
  have hc := own_crd h1
  unfold cntN
  rw [if_pos h, if_pos (cchk_more h hn), RN0_sum _ h1, RN0_sum _ (vld_more h1 hn)]
  simp only at *
  rw [show (n + 1).toNat - crd ((own l).getD (l.length - 1) 0) = (n.toNat - crd ((own l).getD (l.length - 1) 0)) + 1 by omega, Nat.pow_succ, Nat.mul_assoc]
theorem cnt_n8 (N : Nt) : n8 (cntN N) ≤ 1000 := by
  unfold cntN
  split
  · rename_i h
    obtain ⟨h1, h2, h3⟩ := cchk_zero h
    have hr := (RN_R1 0).sum N
    refine n8_big _ (Nat.lt_of_le_of_lt hr ?_)
    show R1.wide _ (vl _) < _
    rw [R1_wide]
    have hb := shortB_all h3 (N.l.length - 1)
    have hl := vl_length (minus (allTo N.n) ((own N.l).getD (N.l.length - 1) 0))
    calc (R1.all (own N.l) N.l).getD (N.l.length - 1) R1.zero * 2 ^ (vl (minus (allTo N.n) ((own N.l).getD (N.l.length - 1) 0))).length
        ≤ (R1.all (own N.l) N.l).getD (N.l.length - 1) R1.zero * 2 ^ 200 := Nat.mul_le_mul_left _ (Nat.pow_le_pow_right (by decide) (by omega))
      _ < big * 2 ^ 200 := Nat.mul_lt_mul_of_pos_right hb (Nat.two_pow_pos _)
  · rw [n8_zero]; omega
end Cs
end
/-! The walk of the law CountMore. -/
section
open Go Go.RowKit Cs
namespace Go.Proofs.YtcgejdlfiemjaaaDoor
set_option maxRecDepth 100000 in
set_option maxHeartbeats 1000000 in
theorem countMore_any (w : World) (N : Nt) (A : Option Addr) (c : Nat) (hlen : N.l.length ≤ 140737488355328) (hN : NtAt w w.heap.size A N.l) (hT : Tab w) :
    Calls Tryd.prog 7 #[ntV N A c] w fun e w' => e = .returned (.bool true) ∧ Below w.heap.size w w' := by
  have hnet := ntNew w N A c 24 _ rfl
  have hbl : Below w.heap.size w (w.alloc (.cells #[.int .i64 N.n, .slice A N.l.length c] 24)) := (Below.refl _ _).alloc (Nat.le_refl _) _
  have hfw := fun W h => few_any W N A c hlen h
  have hc1 := fun W h hT => count_any W N A c hlen h hT
  have hc2 := fun W h hT => count_any W ⟨N.n + 1, N.l⟩ A c hlen h hT
  have HFW := Lib.hid hfw
  have HWK := Lib.hid works_any
  clear hfw
  cases hf : fewB N
  · rw [hf] at HFW
    clear hf hc1 hc2
    obtain ⟨n, l⟩ := N
    go_enter Tryd.func7, Tryd.ntmps7
    go_wp2_with fail
    refine (HFW.out _ ((hN.below hbl).more hbl.size)).mono ?_
    rintro e w2 ⟨rfl, hb2⟩
    have hbl2 := Cs.Below.trans' hbl hb2 hbl.size
    go_wp2_with fail
    refine (HWK.out _ (hT.below hbl2)).mono ?_
    rintro e w3 ⟨rfl, hb3⟩
    go_wp2
    go_ret
    exact ⟨rfl, Cs.Below.trans' hbl2 hb3 hbl2.size⟩
  · rw [hf] at HFW
    clear hf
    have hcs : (N.n < 0 ∨ (0 ≤ N.n ∧ 127 < N.n)) ∨ (0 ≤ N.n ∧ N.n ≤ 127) := by omega
    rcases hcs with hout | ⟨h0, h127⟩
    · clear hc1 hc2
      obtain ⟨n, l⟩ := N
      simp only at hout
      rcases hout with hn | ⟨hn, hn2⟩
      all_goals
        go_enter Tryd.func7, Tryd.ntmps7
        go_wp2_with fail
        refine (HFW.out _ ((hN.below hbl).more hbl.size)).mono ?_
        rintro e w2 ⟨rfl, hb2⟩
        have hbl2 := Cs.Below.trans' hbl hb2 hbl.size
        obtain ⟨hn1, hn2'⟩ := ntCells (rowBelow hnet hb2)
        go_wp2_with fail
        refine (HWK.out _ (hT.below hbl2)).mono ?_
        rintro e w3 ⟨rfl, hb3⟩
        go_wp2
        go_ret
        exact ⟨rfl, Cs.Below.trans' hbl2 hb3 hbl2.size⟩
    · by_cases hk : cchk N = 0
      · have hmo := cntN_more (n := N.n) (l := N.l) hk h127
        have hq1 := cnt_n8 N
        rw [hk] at hc1
        rw [hmo, cchk_more (n := N.n) (l := N.l) hk h127] at hc2
        obtain ⟨n, l⟩ := N
        simp only at h0 h127 hmo hc2
        obtain ⟨V, hV⟩ : ∃ V, cntN ⟨n, l⟩ = V := ⟨_, rfl⟩
        rw [hV] at hq1
        simp only [hV] at hc1 hc2
        have HC1 := Lib.hid hc1
        have HC2 := Lib.hid hc2
        have hml := fun W => mul_any W V 2 (by omega) (n8_few 2 (by decide))
        have hcm := fun W => cmp_eq W (V * 2)
        have hof := fun W => of_any W 2 (by decide)
        simp only [Int.cast_ofNat_Int] at hof
        have HML := Lib.hid hml
        have HCM := Lib.hid hcm
        have HOF := Lib.hid hof
        clear hc1 hc2 hmo hV hml hcm hof hk hq1
        have hwr : IntKind.i64.wrap (n + 1) = n + 1 := by rw [IntKind.wrap_i64]; omega
        go_enter Tryd.func7, Tryd.ntmps7
        go_wp2_with fail
        refine (HFW.out _ ((hN.below hbl).more hbl.size)).mono ?_
        rintro e w2 ⟨rfl, hb2⟩
        replace hnet := rowBelow hnet hb2
        replace hbl := Cs.Below.trans' hbl hb2 hbl.size
        obtain ⟨hn1, hn2'⟩ := ntCells hnet
        go_wp2_with fail
        refine (HC1.out _ ((hN.below hbl).more hbl.size) (hT.below hbl)).mono ?_
        rintro e w3 ⟨rfl, hb3⟩
        replace hnet := rowBelow hnet hb3
        replace hbl := Cs.Below.trans' hbl hb3 hbl.size
        have hx3 := boxNew w3 (.string (natB V)) 28 _ rfl
        replace hnet := hnet.alloc (.cells #[.string (natB V)] 28)
        replace hbl := hbl.alloc hbl.size (.cells #[.string (natB V)] 28)
        obtain ⟨hn1, hn2'⟩ := ntCells hnet
        go_wp2_with fail
        refine (HC2.out _ ((hN.below hbl).more hbl.size) (hT.below hbl)).mono ?_
        rintro e w4 ⟨rfl, hb4⟩
        replace hx3 := rowBelow hx3 hb4
        replace hbl := Cs.Below.trans' hbl hb4 hbl.size
        have hx4 := boxNew w4 (.string (natB (V * 2))) 28 _ rfl
        replace hx3 := hx3.alloc (.cells #[.string (natB (V * 2))] 28)
        replace hbl := hbl.alloc hbl.size (.cells #[.string (natB (V * 2))] 28)
        have hx3' := hx3.drew
        have hx4' := hx4.drew
        have hbl' := belowDrewN hbl 1
        change Below _ _ (World.drew _) at hbl'
        have hd3 := boxCell hx3'
        have hd4 := boxCell hx4'
        clear hb2 hb3 hb4
        go_wp2_with fail
        go_region_held3 (fun w' => w'.cell? ⟨w3.heap.size, 0, none⟩ = some (.string (natB V)) ∧ w'.cell? ⟨w4.heap.size, 0, none⟩ = some (.string (natB (V * 2)))) (first | exact ⟨hd3, hd4⟩ | go_keep)
          (first
            | (go_simp
               go_at_call 23
               (with_reducible refine (HOF.out _).mono ?_)
               rintro e' w9 ⟨rfl, hb9⟩
               replace hx3' := rowBelow hx3' hb9
               replace hx4' := rowBelow hx4' hb9
               replace hbl' := Cs.Below.trans' hbl' hb9 hbl'.size
               have hd3 := boxCell hx3'
               have hd4 := boxCell hx4')
            | (go_simp
               go_at_call 22
               (with_reducible refine (HML.out _).mono ?_)
               rintro e' w9 ⟨rfl, hb9⟩
               replace hx3' := rowBelow hx3' hb9
               replace hx4' := rowBelow hx4' hb9
               replace hbl' := Cs.Below.trans' hbl' hb9 hbl'.size
               have hd3 := boxCell hx3'
               have hd4 := boxCell hx4')
            | (go_simp
               go_at_call 20
               (with_reducible refine (HCM.out _).mono ?_)
               rintro e' w9 ⟨rfl, hb9⟩
               replace hx3' := rowBelow hx3' hb9
               replace hx4' := rowBelow hx4' hb9
               replace hbl' := Cs.Below.trans' hbl' hb9 hbl'.size
               have hd3 := boxCell hx3'
               have hd4 := boxCell hx4')
            | (go_simp
               go_at_call 11
               (with_reducible refine (HWK.out _ (hT.below hbl')).mono ?_)
               rintro e' w9 ⟨rfl, hb9⟩
               replace hx3' := rowBelow hx3' hb9
               replace hx4' := rowBelow hx4' hb9
               replace hbl' := Cs.Below.trans' hbl' hb9 hbl'.size
               have hd3 := boxCell hx3'
               have hd4 := boxCell hx4'))
        all_goals
          try go_wp2
          go_ret
          exact ⟨rfl, hbl'⟩
      · have hb : (cchk N == 0) = false := beq_eq_false_iff_ne.2 hk
        obtain ⟨n, l⟩ := N
        simp only at h0 h127
        obtain ⟨E, hE⟩ : ∃ E, cchk ⟨n, l⟩ = E := ⟨_, rfl⟩
        obtain ⟨V, hV⟩ : ∃ V, cntN ⟨n, l⟩ = V := ⟨_, rfl⟩
        obtain ⟨E2, hE2⟩ : ∃ E, cchk ⟨n + 1, l⟩ = E := ⟨_, rfl⟩
        obtain ⟨V2, hV2⟩ : ∃ V, cntN ⟨n + 1, l⟩ = V := ⟨_, rfl⟩
        rw [hE] at hb
        simp only [hV, hE] at hc1
        simp only [hV2, hE2] at hc2
        have HC1 := Lib.hid hc1
        have HC2 := Lib.hid hc2
        clear hc1 hc2 hV hV2 hE hE2 hk
        have hwr : IntKind.i64.wrap (n + 1) = n + 1 := by rw [IntKind.wrap_i64]; omega
        go_enter Tryd.func7, Tryd.ntmps7
        go_wp2_with fail
        refine (HFW.out _ ((hN.below hbl).more hbl.size)).mono ?_
        rintro e w2 ⟨rfl, hb2⟩
        replace hnet := rowBelow hnet hb2
        replace hbl := Cs.Below.trans' hbl hb2 hbl.size
        obtain ⟨hn1, hn2'⟩ := ntCells hnet
        go_wp2_with fail
        refine (HC1.out _ ((hN.below hbl).more hbl.size) (hT.below hbl)).mono ?_
        rintro e w3 ⟨rfl, hb3⟩
        replace hnet := rowBelow hnet hb3
        replace hbl := Cs.Below.trans' hbl hb3 hbl.size
        replace hnet := hnet.alloc (.cells #[.string (natB V)] 28)
        replace hbl := hbl.alloc hbl.size (.cells #[.string (natB V)] 28)
        obtain ⟨hn1, hn2'⟩ := ntCells hnet
        go_wp2_with fail
        refine (HC2.out _ ((hN.below hbl).more hbl.size) (hT.below hbl)).mono ?_
        rintro e w4 ⟨rfl, hb4⟩
        replace hbl := Cs.Below.trans' hbl hb4 hbl.size
        replace hbl := hbl.alloc hbl.size (.cells #[.string (natB V2)] 28)
        go_wp2_with fail
        refine (HWK.out _ (hT.below hbl)).mono ?_
        rintro e w5 ⟨rfl, hb5⟩
        go_wp2
        go_ret
        exact ⟨rfl, Cs.Below.trans' hbl hb5 hbl.size⟩
end Go.Proofs.YtcgejdlfiemjaaaDoor
end
