/- The walks of sample.Draw and Need. -/
import Derived.Test.YtgnobohfnhpkdaaDoorYl
set_option linter.unusedSimpArgs false
set_option linter.unusedVariables false
open Go Go.RowKit Cs
namespace Cs
theorem n8_sum (N : Nt) (hc : cchk N = 0) : n8 ((RN 0).sum N) ≤ 100000 := by
  have hv := cchk_vld hc
  obtain ⟨hn0, hn1, _, _⟩ := vld_bounds hv
  have hn : N.n = ((N.n.toNat : Nat) : Int) := by omega
  rw [← ones_tot hv hn]
  exact (sum_Sp hv hn (ones_fit (by omega) hc)).1
end Cs
namespace Go.Proofs.YtgnobohfnhpkdaaDoor
set_option maxRecDepth 100000 in
set_option maxHeartbeats 4000000 in
theorem sdraw_any (w : World) (N : Nt) (A : Option Addr) (c lb cb : Nat) (bs : List Nat) (Ab : Option Addr) (hlen : N.l.length ≤ 140737488355328) (hN : NtAt w w.heap.size A N.l) (hT : Tab w)
    (hin : ∀ k (hk : k < N.l.length), N.l[k].ins.length ≤ 1000000) (hl : bs.length = lb) (hl2 : lb ≤ 1000000) (hbs : Rd w w.heap.size Ab lb (byF bs)) (hb8 : ∀ i, bs.getD i 0 < 256) :
    Calls Tryd.prog 6 #[ntV N A c, .slice Ab lb cb] w fun e w' => e = .returned (tkV (dwR N bs)) ∧ Below w.heap.size w w' := by
  obtain ⟨R, hR⟩ : ∃ R, dwR N bs = R := ⟨_, rfl⟩
  have hR0 := hR
  obtain ⟨E, hE⟩ : ∃ E, cchk N = E := ⟨_, rfl⟩
  have hct := fun W hN hT => count_any W N A c hlen hN hT
  rw [hR0]
  rw [hE] at hct
  have HCT := Lib.hid hct
  clear hct
  have q0 := ((Bag.zero w).new #[.int .i64 N.n, .slice A N.l.length c] 24 w.heap.size 2 rfl rfl).new #[.int .u64 0, .int .u64 0] 30 (w.heap.size + 1) 2 (by simp) rfl
  by_cases h0 : E = 0
  · subst h0
    have hv := cchk_vld hE
    obtain ⟨hn0, hn1, hl0, hl1⟩ := vld_bounds hv
    obtain ⟨Nn, l⟩ := N
    obtain ⟨n, hn⟩ : ∃ n : Nat, Nn = (n : Int) := ⟨Nn.toNat, by simp only at hn0; omega⟩
    subst hn
    have hn2 : n ≤ 128 := by simp only at hn1; omega
    rw [dw_tk hv rfl hn2 bs hE] at hR
    have htk := fun W g1 g2 (hN : NtAt W W.heap.size A l) hT hlo hhi hbs => take_any W ⟨(n : Int), l⟩ A c (n + 1) (n + 1) n lb cb (onesP n) (onesP n) bs (some ⟨g1, 0, none⟩) (some ⟨g2, 0, none⟩) Ab hN hv rfl hn2 hT hin (ones_in n) hlo hhi (Nat.le_refl _) (Nat.le_refl _) hl hl2 hbs hb8
    rw [hR] at htk
    have HTK := Lib.hid htk
    have HBS := Lib.hid hbs
    clear htk hbs hb8 hin hl hl2 hv hE hR0 hR hn0 hn1 hl0 hl1
    obtain ⟨C, hC⟩ : ∃ C, cntN ⟨(n : Int), l⟩ = C := ⟨_, rfl⟩
    rw [hC] at HCT
    clear hC
    obtain ⟨Ra, Ru, Ro, Re⟩ := R
    have HTV := Lib.hid (show tkV ⟨Ra, Ru, Ro, Re⟩ = .tuple #[setV Ra, .int .i64 (Ru : Int), .bool Ro, .int .i64 Re] from rfl)
    rw [HTV.out] at HTK
    have hmn : decide ((n : Int) < 0) = false := decide_eq_false (by omega)
    simp only at q0
    go_enter Tryd.func6, Tryd.ntmps6
    go_wp2_with (first
      | (go_at_call 11
         (with_reducible refine (HCT.out _ ((hN.below q0.bl).more q0.bl.size) (hT.below q0.bl)).mono ?_)
         rintro e w5 ⟨rfl, hb5⟩
         have q1 := q0.below hb5
         have s0 := (q1.rows (w.heap.size, 24, 2, #[.int .i64 (n : Int), .slice A l.length c]) (by simp)).lt
         have m00 := q1.is (w.heap.size) 2 24 #[.int .i64 (n : Int), .slice A l.length c] (by simp) 0 (by decide) (.int .i64 (n : Int)) rfl
         have m01 := q1.is (w.heap.size) 2 24 #[.int .i64 (n : Int), .slice A l.length c] (by simp) 1 (by decide) (.slice A l.length c) rfl
         simp only at s0
         have s1 := (q1.rows (w.heap.size + 1, 30, 2, #[.int .u64 0, .int .u64 0]) (by simp)).lt
         have m10 := q1.is (w.heap.size + 1) 2 30 #[.int .u64 0, .int .u64 0] (by simp) 0 (by decide) (.int .u64 0) rfl
         have f10 := (q1.rows (w.heap.size + 1, 30, 2, #[.int .u64 0, .int .u64 0]) (by simp)).frozen 0
         have m11 := q1.is (w.heap.size + 1) 2 30 #[.int .u64 0, .int .u64 0] (by simp) 1 (by decide) (.int .u64 0) rfl
         have f11 := (q1.rows (w.heap.size + 1, 30, 2, #[.int .u64 0, .int .u64 0]) (by simp)).frozen 1
         simp only at s1
         clear hb5)
      | (go_at_call 12
         (with_reducible refine (ones_any _ n hn2).mono ?_)
         rintro e w5 ⟨g1, g2, rfl, hg12, hg1, hg2, hr1, hr2, hb5⟩
         have q2 := (q1.new #[.string (natB C)] 42 _ 1 rfl rfl).below hb5
         have s0 := (q2.rows (w.heap.size, 24, 2, #[.int .i64 (n : Int), .slice A l.length c]) (by simp)).lt
         have m00 := q2.is (w.heap.size) 2 24 #[.int .i64 (n : Int), .slice A l.length c] (by simp) 0 (by decide) (.int .i64 (n : Int)) rfl
         have m01 := q2.is (w.heap.size) 2 24 #[.int .i64 (n : Int), .slice A l.length c] (by simp) 1 (by decide) (.slice A l.length c) rfl
         simp only at s0
         have s1 := (q2.rows (w.heap.size + 1, 30, 2, #[.int .u64 0, .int .u64 0]) (by simp)).lt
         have m10 := q2.is (w.heap.size + 1) 2 30 #[.int .u64 0, .int .u64 0] (by simp) 0 (by decide) (.int .u64 0) rfl
         have f10 := (q2.rows (w.heap.size + 1, 30, 2, #[.int .u64 0, .int .u64 0]) (by simp)).frozen 0
         have m11 := q2.is (w.heap.size + 1) 2 30 #[.int .u64 0, .int .u64 0] (by simp) 1 (by decide) (.int .u64 0) rfl
         have f11 := (q2.rows (w.heap.size + 1, 30, 2, #[.int .u64 0, .int .u64 0]) (by simp)).frozen 1
         simp only at s1
         have l1 := hr1.lt
         have l2 := hr2.lt
         clear hb5)
      | (have q3 := q2.new #[.slice (some ⟨g1, 0, none⟩) (n + 1) (n + 1), .slice (some ⟨g2, 0, none⟩) (n + 1) (n + 1)] 47 _ 2 rfl rfl
         go_at_call 13
         (with_reducible refine (HTK.out _ g1 g2 ((hN.below q3.bl).more q3.bl.size) (hT.below q3.bl) (Rd.of_row (hr1.alloc _) (Nat.le_refl _) (by simp; omega)) (Rd.of_row (hr2.alloc _) (Nat.le_refl _) (by simp; omega)) ((HBS.out.below q3.bl).more q3.bl.size)).mono ?_)
         rintro e w5 ⟨rfl, hb5⟩
         have q4 := q3.below hb5
         have s0 := (q4.rows (w.heap.size + 1, 30, 2, #[.int .u64 0, .int .u64 0]) (by simp)).lt
         have m00 := q4.is (w.heap.size + 1) 2 30 #[.int .u64 0, .int .u64 0] (by simp) 0 (by decide) (.int .u64 0) rfl
         have f00 := (q4.rows (w.heap.size + 1, 30, 2, #[.int .u64 0, .int .u64 0]) (by simp)).frozen 0
         have m01 := q4.is (w.heap.size + 1) 2 30 #[.int .u64 0, .int .u64 0] (by simp) 1 (by decide) (.int .u64 0) rfl
         have f01 := (q4.rows (w.heap.size + 1, 30, 2, #[.int .u64 0, .int .u64 0]) (by simp)).frozen 1
         simp only at s0
         clear hb5))
    exact ret_take rfl (⟨Ra, Ru, Ro, Re⟩) rfl rfl rfl rfl (pairRow (q4.rows (w.heap.size + 1, 30, 2, #[.int .u64 0, .int .u64 0]) (by simp)) _ _) rfl rfl rfl ⟨rfl, (q4.bl.setCell (by simp <;> omega) _).setCell (by simp <;> omega) _⟩
  · have hb0 : (E == 0) = false := beq_eq_false_iff_ne.2 h0
    have hb1 : (E != 0) = true := by simp [bne, hb0]
    have hRR := hR
    unfold dwR at hRR
    rw [hE, if_neg h0] at hRR
    subst hRR
    clear hR0 hR hE hin h0 hbs hb8 hl hl2
    obtain ⟨C, hC⟩ : ∃ C, cntN N = C := ⟨_, rfl⟩
    rw [hC] at HCT
    clear hC
    obtain ⟨Nn, l⟩ := N
    simp only at q0
    go_enter Tryd.func6, Tryd.ntmps6
    go_wp2_with (first
      | (go_at_call 11
         (with_reducible refine (HCT.out _ ((hN.below q0.bl).more q0.bl.size) (hT.below q0.bl)).mono ?_)
         rintro e w5 ⟨rfl, hb5⟩
         have q1 := q0.below hb5
         have s0 := (q1.rows (w.heap.size, 24, 2, #[.int .i64 Nn, .slice A l.length c]) (by simp)).lt
         have m00 := q1.is (w.heap.size) 2 24 #[.int .i64 Nn, .slice A l.length c] (by simp) 0 (by decide) (.int .i64 Nn) rfl
         have m01 := q1.is (w.heap.size) 2 24 #[.int .i64 Nn, .slice A l.length c] (by simp) 1 (by decide) (.slice A l.length c) rfl
         simp only at s0
         have s1 := (q1.rows (w.heap.size + 1, 30, 2, #[.int .u64 0, .int .u64 0]) (by simp)).lt
         have m10 := q1.is (w.heap.size + 1) 2 30 #[.int .u64 0, .int .u64 0] (by simp) 0 (by decide) (.int .u64 0) rfl
         have f10 := (q1.rows (w.heap.size + 1, 30, 2, #[.int .u64 0, .int .u64 0]) (by simp)).frozen 0
         have m11 := q1.is (w.heap.size + 1) 2 30 #[.int .u64 0, .int .u64 0] (by simp) 1 (by decide) (.int .u64 0) rfl
         have f11 := (q1.rows (w.heap.size + 1, 30, 2, #[.int .u64 0, .int .u64 0]) (by simp)).frozen 1
         simp only at s1
         clear hb5))
    exact ret_take rfl (Tk.no E) rfl rfl rfl rfl ((pairRow (q1.rows (w.heap.size + 1, 30, 2, #[.int .u64 0, .int .u64 0]) (by simp)) _ _).alloc _) (no_lo _ _) (no_hi _ _) rfl ⟨rfl, ((q1.bl.setCell (by simp <;> omega) _).setCell (by simp <;> omega) _).alloc (by rw [size_setCell, size_setCell]; exact q1.bl.size) _⟩
set_option maxRecDepth 100000 in
set_option maxHeartbeats 4000000 in
theorem need_any (w : World) (N : Nt) (A : Option Addr) (c : Nat) (hlen : N.l.length ≤ 140737488355328) (hN : NtAt w w.heap.size A N.l) (hT : Tab w) :
    Calls Tryd.prog 7 #[ntV N A c] w fun e w' => e = .returned (.tuple #[.int .i64 (needK N : Int), .int .i64 (needE N)]) ∧ Below w.heap.size w w' := by
  obtain ⟨K, hK⟩ : ∃ K, needK N = K := ⟨_, rfl⟩
  obtain ⟨F, hF⟩ : ∃ F, needE N = F := ⟨_, rfl⟩
  obtain ⟨E, hE⟩ : ∃ E, cchk N = E := ⟨_, rfl⟩
  have hct := fun W hN hT => count_any W N A c hlen hN hT
  rw [hK, hF]
  rw [hE] at hct
  have HCT := Lib.hid hct
  clear hct
  have q0 := (Bag.zero w).new #[.int .i64 N.n, .slice A N.l.length c] 24 w.heap.size 2 rfl rfl
  unfold needK at hK
  unfold needE at hF
  rw [hE] at hK hF
  by_cases h0 : E = 0
  · subst h0
    rw [if_pos rfl] at hK hF
    have hn8 : n8 (cntN N) ≤ 100000 := by
      unfold cntN
      rw [if_pos hE]
      exact n8_sum N hE
    obtain ⟨C, hC⟩ : ∃ C, cntN N = C := ⟨_, rfl⟩
    rw [hC] at HCT hn8 hK hF
    have hcm := fun W => cmp_any W C 0 (by omega) (by rw [n8_zero]; omega)
    rw [natV_zero] at hcm
    have HCM := Lib.hid hcm
    clear hC hcm hE
    obtain ⟨Nn, l⟩ := N
    simp only at q0
    by_cases hz : C = 0
    · rw [if_pos hz] at hF
      have hbz : (cmpN C 0 == 0) = true := by rw [(cmpN_zero C).2 hz]; rfl
      have hK0 : K = 0 := by rw [← hK, hz]; decide +kernel
      subst hF hK0
      clear hK hz
      generalize cmpN C 0 = M at *
      go_enter Tryd.func7, Tryd.ntmps7
      go_wp2_with (first
        | (go_at_call 11
           (with_reducible refine (HCT.out _ ((hN.below q0.bl).more q0.bl.size) (hT.below q0.bl)).mono ?_)
           rintro e w5 ⟨rfl, hb5⟩
           have q1 := q0.below hb5

           clear hb5)
        | (go_at_call 14
           (with_reducible refine (HCM.out _).mono ?_)
           rintro e w5 ⟨rfl, hb5⟩
           have q2 := (q1.new #[.string (natB C)] 42 _ 1 rfl rfl).below hb5
           have k1 := q2.is0 0 (by decide) (.string (natB C)) rfl
           clear hb5))
      go_ret2
      exact ⟨rfl, q2.bl⟩
    · rw [if_neg hz] at hF
      have hbz : (cmpN C 0 == 0) = false := beq_eq_false_iff_ne.2 fun h => hz ((cmpN_zero C).1 h)
      have hbo := fun W => bitsOf_any W C (by omega) hn8
      rw [hK] at hbo
      have HBO := Lib.hid hbo
      subst hF
      clear hK hz hbo
      generalize cmpN C 0 = M at *
      go_enter Tryd.func7, Tryd.ntmps7
      go_wp2_with (first
        | (go_at_call 11
           (with_reducible refine (HCT.out _ ((hN.below q0.bl).more q0.bl.size) (hT.below q0.bl)).mono ?_)
           rintro e w5 ⟨rfl, hb5⟩
           have q1 := q0.below hb5

           clear hb5)
        | (go_at_call 14
           (with_reducible refine (HCM.out _).mono ?_)
           rintro e w5 ⟨rfl, hb5⟩
           have q2 := (q1.new #[.string (natB C)] 42 _ 1 rfl rfl).below hb5
           have k1 := q2.is0 0 (by decide) (.string (natB C)) rfl
           clear hb5)
        | (go_at_call 15
           (with_reducible refine (HBO.out _).mono ?_)
           rintro e w5 ⟨rfl, hb5⟩
           have q3 := q2.below hb5

           clear hb5))
      go_ret2
      exact ⟨rfl, q3.bl⟩
  · have hb0 : (E == 0) = false := beq_eq_false_iff_ne.2 h0
    have hb1 : (E != 0) = true := by simp [bne, hb0]
    rw [if_neg h0] at hK hF
    subst hK hF
    obtain ⟨C, hC⟩ : ∃ C, cntN N = C := ⟨_, rfl⟩
    rw [hC] at HCT
    clear hC hE h0
    obtain ⟨Nn, l⟩ := N
    simp only at q0
    go_enter Tryd.func7, Tryd.ntmps7
    go_wp2_with (first
      | (go_at_call 11
         (with_reducible refine (HCT.out _ ((hN.below q0.bl).more q0.bl.size) (hT.below q0.bl)).mono ?_)
         rintro e w5 ⟨rfl, hb5⟩
         have q1 := q0.below hb5

         clear hb5))
    go_ret2
    exact ⟨rfl, q1.bl.alloc (by have := q1.bl.size; omega) _⟩
end Go.Proofs.YtgnobohfnhpkdaaDoor
