/- The walks of the reference's Bits and Need; the law SampleNeeds. -/
import Derived.Test.YtgnobohfnhpkdaaGreatDoorRH
import Derived.Test.YtgnobohfnhpkdaaGreatDoorRF
import Derived.Test.YtgnobohfnhpkdaaGreatDoorYn
set_option linter.unusedSimpArgs false
set_option linter.unusedVariables false
open Go Go.RowKit Cs
namespace Cs
theorem decN_n8 (x m : Nat) (h : n8 x ≤ m) (hm : 1 ≤ m) : decN x ≤ 8 * m := by
  refine decN_two x (8 * m) (8 * m) ?_ (Nat.le_refl _) (by omega)
  have := (n8_le m x).1 h
  rw [Nat.pow_mul]
  exact this
theorem dec_1 : dec 1 = ⟨#[49]⟩ := by decide +kernel
theorem n8_cnt (N : Nt) : n8 (cntN N) ≤ 100000 := by
  unfold cntN
  split
  · rename_i h; exact n8_sum N h
  · rw [n8_zero]; omega
end Cs
namespace Go.Proofs.YtgnobohfnhpkdaaGreatDoor
set_option maxRecDepth 100000 in
theorem rbits_any (w : World) (c : Nat) (hc : 0 < c) (hd : n8 c ≤ 100000) :
    Calls Tryz.prog 33 #[.string (dec c)] w fun e w' => e = .returned (.int .i64 (nd 2 (c - 1) : Nat)) ∧ Below w.heap.size w w' := by
  have hs := fun W => rsub_any W c 1 (by have := decN_n8 c 100000 hd (by omega); omega) (by rw [show decN 1 = 1 by decide +kernel]; omega) hc
  rw [dec_1] at hs
  have hl := fun W => rlen_any W (c - 1) (by have := decN_n8 (c - 1) 100000 (Nat.le_trans (n8_mono (Nat.sub_le _ _)) hd) (by omega); omega)
  have HS := Lib.hid hs
  have HL := Lib.hid hl
  clear hs hl
  generalize nd 2 (c - 1) = m at *
  generalize dec (c - 1) = t at *
  generalize dec c = s at *
  go_enter Tryz.func33, Tryz.ntmps33
  go_wp2_with (first
    | (go_at_call 60; (with_reducible refine (HS.out _).mono ?_); rintro e w1 ⟨rfl, hb1⟩)
    | (go_at_call 61; (with_reducible refine (HL.out _).mono ?_); rintro e w2 ⟨rfl, hb2⟩))
  go_ret
  exact ⟨rfl, Cs.Below.trans' hb1 hb2 hb1.size⟩
set_option maxRecDepth 100000 in
set_option maxHeartbeats 1000000 in
theorem rneed_any (w : World) (N : Nt) (A : Option Addr) (c : Nat) (hlen : N.l.length ≤ 140737488355328) (hN : NtAt w w.heap.size A N.l) :
    Calls Tryz.prog 15 #[ntV N A c] w fun e w' => e = .returned (.tuple #[.int .i64 (needK N : Int), .int .i64 (needE N)]) ∧ Below w.heap.size w w' := by
  obtain ⟨K, hK⟩ : ∃ K, needK N = K := ⟨_, rfl⟩
  obtain ⟨F, hF⟩ : ∃ F, needE N = F := ⟨_, rfl⟩
  obtain ⟨E, hE⟩ : ∃ E, cchk N = E := ⟨_, rfl⟩
  have hct := fun W hN => rcount_any W N A c hlen hN
  have hn8 := n8_cnt N
  rw [hK, hF]
  rw [hE] at hct
  have q0 := (Bag.zero w).new #[.int .i64 N.n, .slice A N.l.length c] 24 w.heap.size 2 rfl rfl
  unfold needK at hK
  unfold needE at hF
  rw [hE] at hK hF
  obtain ⟨C, hC⟩ : ∃ C, cntN N = C := ⟨_, rfl⟩
  rw [hC] at hct hn8 hK hF
  have HCT := Lib.hid hct
  have h0' := dec_is0 C
  clear hct hE hC
  obtain ⟨Nn, l⟩ := N
  simp only at q0
  by_cases h0 : E = 0
  · subst h0
    rw [if_pos rfl] at hK hF
    by_cases hz : C = 0
    · rw [if_pos hz] at hF
      have hK0 : K = 0 := by rw [← hK, hz]; decide +kernel
      have hd : (dec C).toList = [48] := h0'.2 hz
      subst hF hK0
      clear hK hz h0' hn8
      generalize dec C = s at *
      go_enter Tryz.func15, Tryz.ntmps15
      go_wp2_with (go_at_call 32; (with_reducible refine (HCT.out _ ((hN.below q0.bl).more q0.bl.size)).mono ?_); rintro e w1 ⟨rfl, hb1⟩)
      go_ret2
      exact ⟨rfl, Cs.Below.trans' q0.bl hb1 q0.bl.size⟩
    · rw [if_neg hz] at hF
      have hd : ¬ (dec C).toList = [48] := fun h => hz (h0'.1 h)
      have hd2 : ((dec C).toList == [48]) = false := beq_eq_false_iff_ne.2 hd
      have hbi := fun W => rbits_any W C (by omega) hn8
      rw [hK] at hbi
      have HBI := Lib.hid hbi
      subst hF
      clear hK hz h0' hn8 hbi
      generalize dec C = s at *
      go_enter Tryz.func15, Tryz.ntmps15
      go_wp2_with (first
        | (go_at_call 32; (with_reducible refine (HCT.out _ ((hN.below q0.bl).more q0.bl.size)).mono ?_); rintro e w1 ⟨rfl, hb1⟩)
        | (go_at_call 33; (with_reducible refine (HBI.out _).mono ?_); rintro e w2 ⟨rfl, hb2⟩))
      go_ret2
      have h1 := Cs.Below.trans' q0.bl hb1 q0.bl.size
      exact ⟨rfl, Cs.Below.trans' h1 hb2 h1.size⟩
  · have hb0 : (E == 0) = false := beq_eq_false_iff_ne.2 h0
    have hb1 : (E != 0) = true := by simp [bne, hb0]
    rw [if_neg h0] at hK hF
    subst hK hF
    clear h0 h0' hn8
    go_enter Tryz.func15, Tryz.ntmps15
    go_wp2_with (go_at_call 32; (with_reducible refine (HCT.out _ ((hN.below q0.bl).more q0.bl.size)).mono ?_); rintro e w1 ⟨rfl, hb1⟩)
    go_ret2
    exact ⟨rfl, Cs.Below.trans' q0.bl hb1 q0.bl.size⟩
set_option maxRecDepth 100000 in
set_option maxHeartbeats 1000000 in
theorem needs_any (w : World) (N : Nt) (A : Option Addr) (c : Nat) (hlen : N.l.length ≤ 140737488355328) (hN : NtAt w w.heap.size A N.l) (hT : Tab w) :
    Calls Tryz.prog 4 #[ntV N A c] w fun e w' => e = .returned (.bool true) ∧ Below w.heap.size w w' := by
  have hfw := fun W hN => fewS_any W N A none c 0 0 hlen hN
  have hnd := fun W hN hT => need_any W N A c hlen hN hT
  have hrn := fun W hN => rneed_any W N A c hlen hN
  obtain ⟨K, hK⟩ : ∃ K, needK N = K := ⟨_, rfl⟩
  obtain ⟨F, hF⟩ : ∃ F, needE N = F := ⟨_, rfl⟩
  rw [hK, hF] at hnd hrn
  have q0 := (Bag.zero w).new #[.int .i64 N.n, .slice A N.l.length c] 24 w.heap.size 2 rfl rfl
  have HNT := Lib.hid (fun W (hb : Below w.heap.size w W) => (hN.below hb).more hb.size)
  have HTB := Lib.hid (fun W (hb : Below w.heap.size w W) => hT.below hb)
  have HND := Lib.hid hnd
  have HRN := Lib.hid hrn
  clear hnd hrn hK hF hN hT
  cases hf : fewS N 0
  · rw [hf] at hfw
    have HFW := Lib.hid hfw
    clear hfw hf
    obtain ⟨Nn, l⟩ := N
    simp only at q0
    go_enter Tryz.func4, Tryz.ntmps4
    go_wp2_with fail
    refine (HFW.out _ (HNT.out _ q0.bl)).mono ?_
    rintro e w1 ⟨rfl, hb1⟩
    have q1 := q0.below hb1
    go_wp2_with fail
    refine (works_any _ (HTB.out _ q1.bl)).mono ?_
    rintro e w2 ⟨rfl, hb2⟩
    have hb := Cs.Below.trans' q1.bl hb2 q1.bl.size
    go_wp2_with fail
    go_ret
    exact ⟨rfl, hb⟩
  · rw [hf] at hfw
    have HFW := Lib.hid hfw
    clear hfw hf
    obtain ⟨Nn, l⟩ := N
    simp only at q0
    go_enter Tryz.func4, Tryz.ntmps4
    go_wp2_with fail
    refine (HFW.out _ (HNT.out _ q0.bl)).mono ?_
    rintro e w1 ⟨rfl, hb1⟩
    have q1 := q0.below hb1
    have m1 := q1.is0 0 (by decide) (.int .i64 Nn) rfl
    have m2 := q1.is0 1 (by decide) (.slice A l.length c) rfl
    clear hb1
    go_wp2_with fail
    refine (HND.out _ (HNT.out _ q1.bl) (HTB.out _ q1.bl)).mono ?_
    rintro e w2 ⟨rfl, hb2⟩
    have q2 := q1.below hb2
    have m3 := q2.is0 0 (by decide) (.int .i64 Nn) rfl
    have m4 := q2.is0 1 (by decide) (.slice A l.length c) rfl
    clear hb2 m1 m2
    go_wp2_with fail
    refine (HRN.out _ (HNT.out _ q2.bl)).mono ?_
    rintro e w3 ⟨rfl, hb3⟩
    have q3 := q2.below hb3
    clear hb3 m3 m4
    go_wp2_with fail
    refine (works_any _ (HTB.out _ q3.bl)).mono ?_
    rintro e w4 ⟨rfl, hb4⟩
    have hb := Cs.Below.trans' q3.bl hb4 q3.bl.size
    go_wp2_with fail
    go_ret
    exact ⟨rfl, hb⟩
end Go.Proofs.YtgnobohfnhpkdaaGreatDoor
