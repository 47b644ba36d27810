/- The walk of SampleUniform. -/
import Derived.Test.YtgnobohfnhpkdaaGreatDoorYs
import Derived.Test.YtgnobohfnhpkdaaGreatDoorRE
import Derived.Test.YtgnobohfnhpkdaaGreatDoorRG
import Derived.Test.YtgnobohfnhpkdaaGreatDoorYn
import Derived.WalkMore
import Derived.Deep.CutBlock
import Derived.Deep.CutRange
set_option linter.unusedSimpArgs false
set_option linter.unusedVariables false
open Go Go.RowKit Cs
namespace Go.Proofs.YtgnobohfnhpkdaaGreatDoor
set_option maxRecDepth 100000 in
set_option maxHeartbeats 1000000 in
/-- Models, where there are none. -/
theorem models_none (w : World) (N : Nt) (A : Option Addr) (c n : Nat) (hn : N.n = (n : Int)) (hn6 : n ≤ 6) (hlen : N.l.length ≤ 140737488355328) (hN : NtAt w w.heap.size A N.l) (hv : vld N = true) (h0 : ∀ s, s < 2 ^ n → evB N s = false) :
    Calls Tryz.prog 18 #[ntV N A c] w fun e w' => e = .returned (.slice none 0 0) ∧ Below w.heap.size w w' := by
  obtain ⟨M, hM⟩ : ∃ M, 2 ^ n = M := ⟨_, rfl⟩
  have hM2 : M ≤ 64 := by rw [← hM]; exact Nat.le_trans (Nat.pow_le_pow_right (by decide) hn6) (by decide)
  have hck := fun W h => rnvalid_any W N A c hlen h
  rw [hv] at hck
  have hev : ∀ W k, NtAt W W.heap.size A N.l → Calls Tryz.prog 19 #[ntV N A c, setV (nthR n k n)] W fun e w' => e = .returned (.bool false) ∧ Below W.heap.size W w' := fun W k h => by
    rw [← h0 (nthR n k n) (nthR_lt n k n)]
    exact reval_any W N A c _ h hv
  have hnt := fun (W : World) (k : Nat) (hk : k < M) => rnth_any W n k (by omega) (by omega)
  have hMi : IntKind.i64.wrap ((2 : Int) ^ n) = (M : Int) := by
    rw [← hM, Int.natCast_pow]; exact IntWalk.i64_in _ (by rw [show ((2 : Int) ^ n) = ((2 ^ n : Nat) : Int) by simp, hM]; omega)
  have hMi2 : IntKind.i64.wrap (1 * (2 : Int) ^ n) = (M : Int) := by rw [Int.one_mul]; exact hMi
  have HCK := Lib.hid hck
  have HEV := Lib.hid hev
  have HNT' := Lib.hid hnt
  have HNT := Lib.hid (fun W (hb : Below w.heap.size w W) => (hN.below hb).more hb.size)
  clear hck hev hnt h0 hM hv hN
  obtain ⟨Nn, l⟩ := N
  simp only at hn
  subst hn
  have q0 := (Bag.zero w).new #[.int .i64 (n : Int), .slice A l.length c] 24 w.heap.size 2 rfl rfl
  have hd1 : decide ((n : Int) ≤ 16) = true := decide_eq_true (by omega)
  go_enter Tryz.func18, Tryz.ntmps18
  go_wp2_with fail
  go_loopw [3, 4] (fun o t wr => ∃ k : Nat, k ≤ M ∧ o = .slice none 0 0 ∧ t = .int .i64 (k : Int) ∧ Bag w w w.heap.size [(w.heap.size, 24, 2, #[.int .i64 (n : Int), .slice A l.length c])] wr) (fun _ t _ => M - (intOf t).toNat)
  case atStart => exact ⟨0, by omega, rfl, rfl, q0⟩
  case round =>
    clear q0
    obtain ⟨k, hk, rfl, rfl, q1⟩ := hrel
    have m1 := q1.is0 0 (by decide) (.int .i64 (n : Int)) rfl
    have m2 := q1.is0 1 (by decide) (.slice A l.length c) rfl
    rcases Nat.lt_or_ge k M with hlt | hge
    · have d1 : decide ((k : Int) < (M : Int)) = true := decide_eq_true (by omega)
      have hnk := fun W => HNT'.out W k hlt
      have HNK := Lib.hid hnk
      clear hnk
      go_wp2_with fail
      refine (HCK.out _ (HNT.out _ q1.bl)).mono ?_
      rintro e w2 ⟨rfl, hb2⟩
      have q2 := q1.below hb2
      have m3 := q2.is0 0 (by decide) (.int .i64 (n : Int)) rfl
      have m4 := q2.is0 1 (by decide) (.slice A l.length c) rfl
      clear m1 m2 hb2
      go_wp2_with fail
      refine (HNK.out _).mono ?_
      rintro e w3 ⟨rfl, hb3⟩
      have q3 := q2.below hb3
      have q4 := q3.new #[.int .u64 (lo (nthR n k n) : Int), .int .u64 (hi (nthR n k n) : Int)] 30 w3.heap.size 2 rfl rfl
      have m5 := q3.is0 0 (by decide) (.int .i64 (n : Int)) rfl
      have m6 := q3.is0 1 (by decide) (.slice A l.length c) rfl
      have m7 := q3.lt0
      clear m3 m4 hb3 hMi hMi2 d1
      go_wp2_with fail
      refine (HEV.out _ k (HNT.out _ q4.bl)).mono ?_
      rintro e w5 ⟨rfl, hb5⟩
      have q5 := q4.below hb5
      clear hb5
      go_wp2_with fail
      go_roundw
      case rel => exact ⟨k + 1, by omega, rfl, by go_num, q5.tail⟩
      case measure => simp [intOf]; omega
    · obtain rfl : k = M := by omega
      have d1 : decide ((k : Int) < (k : Int)) = false := decide_eq_false (by omega)
      go_wp2_with fail
      refine (HCK.out _ (HNT.out _ q1.bl)).mono ?_
      rintro e w2 ⟨rfl, hb2⟩
      have q2 := q1.below hb2
      have m3 := q2.is0 0 (by decide) (.int .i64 (n : Int)) rfl
      have m4 := q2.is0 1 (by decide) (.slice A l.length c) rfl
      clear m1 m2 hb2
      go_wp2_with fail
      go_ret
      exact ⟨rfl, q2.bl⟩
set_option maxRecDepth 100000 in
set_option maxHeartbeats 4000000 in
/-- What is not looked at. -/
theorem uniform_no (w : World) (N : Nt) (A : Option Addr) (c : Nat) (hlen : N.l.length ≤ 140737488355328) (hN : NtAt w w.heap.size A N.l) (hT : Tab w)
    (h : fewS N 0 = false ∨ (fewS N 0 = true ∧ 6 < N.n) ∨ (fewS N 0 = true ∧ N.n ≤ 6 ∧ cchk N ≠ 0)) :
    Calls Tryz.prog 5 #[ntV N A c] w fun e w' => e = .returned (.bool true) ∧ Below w.heap.size w w' := by
  have hfw := fun W hN => fewS_any W N A none c 0 0 hlen hN
  have hck := fun W hN => rcheck_any W N A c hlen hN
  obtain ⟨E, hE⟩ : ∃ E, cchk N = E := ⟨_, rfl⟩
  rw [hE] at hck h
  have HCK := Lib.hid hck
  clear hck hE
  obtain ⟨Nn, l⟩ := N
  simp only at h hN
  have q0 := (Bag.zero w).new #[.int .i64 Nn, .slice A l.length c] 24 w.heap.size 2 rfl rfl
  have HNT := Lib.hid (fun W (hb : Below w.heap.size w W) => (hN.below hb).more hb.size)
  have HTB := Lib.hid (fun W (hb : Below w.heap.size w W) => hT.below hb)
  clear hN hT
  rcases h with h | ⟨h, h6⟩ | ⟨h, h6, hE⟩
  · rw [h] at hfw
    have HFW := Lib.hid hfw
    clear hfw h
    go_enter Tryz.func5, Tryz.ntmps5
    go_wp2_with fail
    refine (HFW.out _ (HNT.out _ q0.bl)).mono ?_
    rintro e w1 ⟨rfl, hb1⟩
    have q1 := q0.below hb1
    have m11 := q1.is w.heap.size 2 24 #[.int .i64 Nn, .slice A l.length c] (by simp) 0 (by decide) (.int .i64 Nn) rfl
    have m12 := q1.is w.heap.size 2 24 #[.int .i64 Nn, .slice A l.length c] (by simp) 1 (by decide) (.slice A l.length c) rfl
    clear hb1
    go_wp2_with fail
    refine (works_any _ (HTB.out _ q1.bl)).mono ?_
    rintro e w9 ⟨rfl, hb9⟩
    have hb := Cs.Below.trans' q1.bl hb9 q1.bl.size
    go_wp2_with fail
    go_ret
    exact ⟨rfl, hb⟩
  · rw [h] at hfw
    have HFW := Lib.hid hfw
    have d1 : decide (6 < Nn) = true := decide_eq_true h6
    clear hfw h
    go_enter Tryz.func5, Tryz.ntmps5
    go_wp2_with fail
    refine (HFW.out _ (HNT.out _ q0.bl)).mono ?_
    rintro e w1 ⟨rfl, hb1⟩
    have q1 := q0.below hb1
    have m11 := q1.is w.heap.size 2 24 #[.int .i64 Nn, .slice A l.length c] (by simp) 0 (by decide) (.int .i64 Nn) rfl
    have m12 := q1.is w.heap.size 2 24 #[.int .i64 Nn, .slice A l.length c] (by simp) 1 (by decide) (.slice A l.length c) rfl
    clear hb1
    go_wp2_with fail
    refine (works_any _ (HTB.out _ q1.bl)).mono ?_
    rintro e w9 ⟨rfl, hb9⟩
    have hb := Cs.Below.trans' q1.bl hb9 q1.bl.size
    go_wp2_with fail
    go_ret
    exact ⟨rfl, hb⟩
  · rw [h] at hfw
    have HFW := Lib.hid hfw
    have d1 : decide (6 < Nn) = false := decide_eq_false (by omega)
    have d2 : (E == 0) = false := beq_eq_false_iff_ne.2 hE
    have d3 : (E != 0) = true := by simp [bne, d2]
    clear hfw h
    go_enter Tryz.func5, Tryz.ntmps5
    go_wp2_with fail
    refine (HFW.out _ (HNT.out _ q0.bl)).mono ?_
    rintro e w1 ⟨rfl, hb1⟩
    have q1 := q0.below hb1
    have m11 := q1.is w.heap.size 2 24 #[.int .i64 Nn, .slice A l.length c] (by simp) 0 (by decide) (.int .i64 Nn) rfl
    have m12 := q1.is w.heap.size 2 24 #[.int .i64 Nn, .slice A l.length c] (by simp) 1 (by decide) (.slice A l.length c) rfl
    clear hb1
    go_wp2_with fail
    refine (HCK.out _ (HNT.out _ q1.bl)).mono ?_
    rintro e w2 ⟨rfl, hb2⟩
    have q2 := q1.below hb2
    have m21 := q2.is w.heap.size 2 24 #[.int .i64 Nn, .slice A l.length c] (by simp) 0 (by decide) (.int .i64 Nn) rfl
    have m22 := q2.is w.heap.size 2 24 #[.int .i64 Nn, .slice A l.length c] (by simp) 1 (by decide) (.slice A l.length c) rfl
    clear hb2 m11 m12
    go_wp2_with fail
    refine (works_any _ (HTB.out _ q2.bl)).mono ?_
    rintro e w9 ⟨rfl, hb9⟩
    have hb := Cs.Below.trans' q2.bl hb9 q2.bl.size
    go_wp2_with fail
    go_ret
    exact ⟨rfl, hb⟩
set_option maxRecDepth 100000 in
set_option maxHeartbeats 4000000 in
/-- Nets that are not deterministic, without models, or whose number of bits is not looked at. -/
theorem uniform_no2 (w : World) (N : Nt) (A : Option Addr) (c n : Nat) (hlen : N.l.length ≤ 140737488355328) (hN : NtAt w w.heap.size A N.l) (hT : Tab w) (hf : fewS N 0 = true) (hn : N.n = (n : Int)) (hn6 : n ≤ 6) (hc : cchk N = 0)
    (h : ap2 N n = false ∨ (ap2 N n = true ∧ cntN N = 0) ∨ (ap2 N n = true ∧ cntN N ≠ 0 ∧ ¬ (needK N = 0 ∨ needK N = 1 ∨ needK N = 2 ∨ needK N = 4))) :
    Calls Tryz.prog 5 #[ntV N A c] w fun e w' => e = .returned (.bool true) ∧ Below w.heap.size w w' := by
  have hv := cchk_vld hc
  have hfw := fun W hN => fewS_any W N A none c 0 0 hlen hN
  have hck := fun W hN => rcheck_any W N A c hlen hN
  have hap := fun W hN => rapart2_any W N A c n hn (by omega) hN hv
  have hnd := fun W hN hT => need_any W N A c hlen hN hT
  have hmd : ap2 N n = true → cntN N = 0 → ∀ W, NtAt W W.heap.size A N.l → Calls Tryz.prog 18 #[ntV N A c] W fun e w' => e = .returned (.slice none 0 0) ∧ Below W.heap.size W w' := fun h1 h2 W hN =>
    models_none W N A c n hn hn6 hlen hN hv (cnt_none hn hc (fun s hs => ap2_det h1 s hs) h2)
  have hne : needE N = if cntN N = 0 then 3 else 0 := by unfold needE; rw [if_pos hc]
  rw [hf] at hfw
  rw [hc] at hck
  have HFW := Lib.hid hfw
  have HCK := Lib.hid hck
  have d1 : decide (6 < (n : Int)) = false := decide_eq_false (by omega)
  obtain ⟨C, hC⟩ : ∃ C, cntN N = C := ⟨_, rfl⟩
  obtain ⟨K, hK⟩ : ∃ K, needK N = K := ⟨_, rfl⟩
  rw [hC] at h hmd hne
  rw [hK] at h hnd
  rw [hne] at hnd
  clear hfw hck hC hc hf hv hK hne
  obtain ⟨Nn, l⟩ := N
  simp only at hn
  subst hn
  have q0 := (Bag.zero w).new #[.int .i64 (n : Int), .slice A l.length c] 24 w.heap.size 2 rfl rfl
  have HNT := Lib.hid (fun W (hb : Below w.heap.size w W) => (hN.below hb).more hb.size)
  have HTB := Lib.hid (fun W (hb : Below w.heap.size w W) => hT.below hb)
  clear hN hT
  rcases h with h | ⟨h, h0⟩ | ⟨h, h0, hk⟩
  · rw [h] at hap
    have HAP := Lib.hid hap
    clear hap hnd hmd h
    go_enter Tryz.func5, Tryz.ntmps5
    go_wp2_with fail
    refine (HFW.out _ (HNT.out _ q0.bl)).mono ?_
    rintro e w1 ⟨rfl, hb1⟩
    have q1 := q0.below hb1
    have m11 := q1.is w.heap.size 2 24 #[.int .i64 (n : Int), .slice A l.length c] (by simp) 0 (by decide) (.int .i64 (n : Int)) rfl
    have m12 := q1.is w.heap.size 2 24 #[.int .i64 (n : Int), .slice A l.length c] (by simp) 1 (by decide) (.slice A l.length c) rfl
    clear hb1
    go_wp2_with fail
    refine (HCK.out _ (HNT.out _ q1.bl)).mono ?_
    rintro e w2 ⟨rfl, hb2⟩
    have q2 := q1.below hb2
    have m21 := q2.is w.heap.size 2 24 #[.int .i64 (n : Int), .slice A l.length c] (by simp) 0 (by decide) (.int .i64 (n : Int)) rfl
    have m22 := q2.is w.heap.size 2 24 #[.int .i64 (n : Int), .slice A l.length c] (by simp) 1 (by decide) (.slice A l.length c) rfl
    clear hb2 m11 m12
    go_wp2_with fail
    refine (HAP.out _ (HNT.out _ q2.bl)).mono ?_
    rintro e w3 ⟨rfl, hb3⟩
    have q3 := q2.below hb3
    have m31 := q3.is w.heap.size 2 24 #[.int .i64 (n : Int), .slice A l.length c] (by simp) 0 (by decide) (.int .i64 (n : Int)) rfl
    have m32 := q3.is w.heap.size 2 24 #[.int .i64 (n : Int), .slice A l.length c] (by simp) 1 (by decide) (.slice A l.length c) rfl
    clear hb3 m21 m22
    go_wp2_with fail
    refine (works_any _ (HTB.out _ q3.bl)).mono ?_
    rintro e w9 ⟨rfl, hb9⟩
    have hb := Cs.Below.trans' q3.bl hb9 q3.bl.size
    go_wp2_with fail
    go_ret
    exact ⟨rfl, hb⟩
  · have hmd2 := hmd h h0
    rw [h] at hap
    rw [if_pos h0] at hnd
    have HAP := Lib.hid hap
    have HND := Lib.hid hnd
    have HMD := Lib.hid hmd2
    clear hap hnd hmd h h0 hmd2
    go_enter Tryz.func5, Tryz.ntmps5
    go_wp2_with fail
    refine (HFW.out _ (HNT.out _ q0.bl)).mono ?_
    rintro e w1 ⟨rfl, hb1⟩
    have q1 := q0.below hb1
    have m11 := q1.is w.heap.size 2 24 #[.int .i64 (n : Int), .slice A l.length c] (by simp) 0 (by decide) (.int .i64 (n : Int)) rfl
    have m12 := q1.is w.heap.size 2 24 #[.int .i64 (n : Int), .slice A l.length c] (by simp) 1 (by decide) (.slice A l.length c) rfl
    clear hb1
    go_wp2_with fail
    refine (HCK.out _ (HNT.out _ q1.bl)).mono ?_
    rintro e w2 ⟨rfl, hb2⟩
    have q2 := q1.below hb2
    have m21 := q2.is w.heap.size 2 24 #[.int .i64 (n : Int), .slice A l.length c] (by simp) 0 (by decide) (.int .i64 (n : Int)) rfl
    have m22 := q2.is w.heap.size 2 24 #[.int .i64 (n : Int), .slice A l.length c] (by simp) 1 (by decide) (.slice A l.length c) rfl
    clear hb2 m11 m12
    go_wp2_with fail
    refine (HAP.out _ (HNT.out _ q2.bl)).mono ?_
    rintro e w3 ⟨rfl, hb3⟩
    have q3 := q2.below hb3
    have m31 := q3.is w.heap.size 2 24 #[.int .i64 (n : Int), .slice A l.length c] (by simp) 0 (by decide) (.int .i64 (n : Int)) rfl
    have m32 := q3.is w.heap.size 2 24 #[.int .i64 (n : Int), .slice A l.length c] (by simp) 1 (by decide) (.slice A l.length c) rfl
    clear hb3 m21 m22
    go_wp2_with fail
    refine (HND.out _ (HNT.out _ q3.bl) (HTB.out _ q3.bl)).mono ?_
    rintro e w4 ⟨rfl, hb4⟩
    have q4 := q3.below hb4
    have m41 := q4.is w.heap.size 2 24 #[.int .i64 (n : Int), .slice A l.length c] (by simp) 0 (by decide) (.int .i64 (n : Int)) rfl
    have m42 := q4.is w.heap.size 2 24 #[.int .i64 (n : Int), .slice A l.length c] (by simp) 1 (by decide) (.slice A l.length c) rfl
    clear hb4 m31 m32
    go_wp2_with fail
    refine (HMD.out _ (HNT.out _ q4.bl)).mono ?_
    rintro e w5 ⟨rfl, hb5⟩
    have q5 := q4.below hb5
    clear m41 m42 hb5
    go_wp2_with fail
    refine (works_any _ (HTB.out _ q5.bl)).mono ?_
    rintro e w9 ⟨rfl, hb9⟩
    have hb := Cs.Below.trans' q5.bl hb9 q5.bl.size
    go_wp2_with fail
    go_ret
    exact ⟨rfl, hb⟩
  · rw [h] at hap
    rw [if_neg h0] at hnd
    have HAP := Lib.hid hap
    have HND := Lib.hid hnd
    have k0 : ((K : Int) == 0) = false := beq_eq_false_iff_ne.2 (by omega)
    have k1 : ((K : Int) == 1) = false := beq_eq_false_iff_ne.2 (by omega)
    have k2 : ((K : Int) == 2) = false := beq_eq_false_iff_ne.2 (by omega)
    have k4 : ((K : Int) == 4) = false := beq_eq_false_iff_ne.2 (by omega)
    have j0 : ((K : Int) != 0) = true := by simp [bne, k0]
    have j1 : ((K : Int) != 1) = true := by simp [bne, k1]
    have j2 : ((K : Int) != 2) = true := by simp [bne, k2]
    have j4 : ((K : Int) != 4) = true := by simp [bne, k4]
    clear hap hnd hmd h h0 hk
    go_enter Tryz.func5, Tryz.ntmps5
    go_wp2_with fail
    refine (HFW.out _ (HNT.out _ q0.bl)).mono ?_
    rintro e w1 ⟨rfl, hb1⟩
    have q1 := q0.below hb1
    have m11 := q1.is w.heap.size 2 24 #[.int .i64 (n : Int), .slice A l.length c] (by simp) 0 (by decide) (.int .i64 (n : Int)) rfl
    have m12 := q1.is w.heap.size 2 24 #[.int .i64 (n : Int), .slice A l.length c] (by simp) 1 (by decide) (.slice A l.length c) rfl
    clear hb1
    go_wp2_with fail
    refine (HCK.out _ (HNT.out _ q1.bl)).mono ?_
    rintro e w2 ⟨rfl, hb2⟩
    have q2 := q1.below hb2
    have m21 := q2.is w.heap.size 2 24 #[.int .i64 (n : Int), .slice A l.length c] (by simp) 0 (by decide) (.int .i64 (n : Int)) rfl
    have m22 := q2.is w.heap.size 2 24 #[.int .i64 (n : Int), .slice A l.length c] (by simp) 1 (by decide) (.slice A l.length c) rfl
    clear hb2 m11 m12
    go_wp2_with fail
    refine (HAP.out _ (HNT.out _ q2.bl)).mono ?_
    rintro e w3 ⟨rfl, hb3⟩
    have q3 := q2.below hb3
    have m31 := q3.is w.heap.size 2 24 #[.int .i64 (n : Int), .slice A l.length c] (by simp) 0 (by decide) (.int .i64 (n : Int)) rfl
    have m32 := q3.is w.heap.size 2 24 #[.int .i64 (n : Int), .slice A l.length c] (by simp) 1 (by decide) (.slice A l.length c) rfl
    clear hb3 m21 m22
    go_wp2_with fail
    refine (HND.out _ (HNT.out _ q3.bl) (HTB.out _ q3.bl)).mono ?_
    rintro e w4 ⟨rfl, hb4⟩
    have q4 := q3.below hb4
    have m41 := q4.is w.heap.size 2 24 #[.int .i64 (n : Int), .slice A l.length c] (by simp) 0 (by decide) (.int .i64 (n : Int)) rfl
    have m42 := q4.is w.heap.size 2 24 #[.int .i64 (n : Int), .slice A l.length c] (by simp) 1 (by decide) (.slice A l.length c) rfl
    clear hb4 m31 m32
    go_wp2_with fail
    refine (works_any _ (HTB.out _ q4.bl)).mono ?_
    rintro e w9 ⟨rfl, hb9⟩
    have hb := Cs.Below.trans' q4.bl hb9 q4.bl.size
    go_wp2_with fail
    go_ret
    exact ⟨rfl, hb⟩
theorem zero64 : ∀ i, i < 64 → arrF #[.int .i64 0, .int .i64 0, .int .i64 0, .int .i64 0, .int .i64 0, .int .i64 0, .int .i64 0, .int .i64 0, .int .i64 0, .int .i64 0, .int .i64 0, .int .i64 0, .int .i64 0, .int .i64 0, .int .i64 0, .int .i64 0, .int .i64 0, .int .i64 0, .int .i64 0, .int .i64 0, .int .i64 0, .int .i64 0, .int .i64 0, .int .i64 0, .int .i64 0, .int .i64 0, .int .i64 0, .int .i64 0, .int .i64 0, .int .i64 0, .int .i64 0, .int .i64 0, .int .i64 0, .int .i64 0, .int .i64 0, .int .i64 0, .int .i64 0, .int .i64 0, .int .i64 0, .int .i64 0, .int .i64 0, .int .i64 0, .int .i64 0, .int .i64 0, .int .i64 0, .int .i64 0, .int .i64 0, .int .i64 0, .int .i64 0, .int .i64 0, .int .i64 0, .int .i64 0, .int .i64 0, .int .i64 0, .int .i64 0, .int .i64 0, .int .i64 0, .int .i64 0, .int .i64 0, .int .i64 0, .int .i64 0, .int .i64 0, .int .i64 0, .int .i64 0] i = .int .i64 0 := by
  intro i hi
  (repeat' (rcases i with _ | i; rfl)) <;> omega
/-- The cells of how often each set was drawn. -/
def manyF (N : Nt) (k j : Nat) : Value := .int .i64 ((manyN N k j : Nat) : Int)
theorem manyF_zero (N : Nt) (j : Nat) : manyF N 0 j = .int .i64 0 := rfl
set_option maxRecDepth 100000 in
set_option maxHeartbeats 8000000 in
theorem uniform_main (w : World) (N : Nt) (A : Option Addr) (c n : Nat) (hlen : N.l.length ≤ 140737488355328) (hN : NtAt w w.heap.size A N.l) (hT : Tab w) (hf : fewS N 0 = true) (hn : N.n = (n : Int)) (hn6 : n ≤ 6) (hc : cchk N = 0)
    (hap2 : ap2 N n = true) (h0 : cntN N ≠ 0) (hk : needK N = 0 ∨ needK N = 1 ∨ needK N = 2 ∨ needK N = 4) (hin : ∀ k (hk : k < N.l.length), N.l[k].ins.length ≤ 1000000) :
    Calls Tryz.prog 5 #[ntV N A c] w fun e w' => e = .returned (.bool true) ∧ Below w.heap.size w w' := by
  have hv := cchk_vld hc
  have hdet : ∀ s, s < 2 ^ n → detAt N s = true := fun s hs => ap2_det hap2 s hs
  have hkk : needK N = nd 2 (cntN N - 1) := by unfold needK; rw [if_pos hc]
  obtain ⟨V, hV0, hV1, hVe⟩ := many_even hn hc hdet h0 (by rw [← hkk]; exact hk)
  have hsm := dw_small hn hc hdet h0
  have hfw := fun W hN => fewS_any W N A none c 0 0 hlen hN
  have hck := fun W hN => rcheck_any W N A c hlen hN
  have hap := fun W hN => rapart2_any W N A c n hn (by omega) hN hv
  have hnd := fun W hN hT => need_any W N A c hlen hN hT
  have hev := fun W s hN => reval_any W N A c s hN hv
  have hdw : ∀ b, b < 256 → ∀ W, NtAt W W.heap.size A N.l → Tab W → ∀ g, Rd W W.heap.size (some ⟨g, 0, none⟩) 1 (byF [b]) → Calls Tryz.prog 12 #[ntV N A c, .slice (some ⟨g, 0, none⟩) 1 1] W fun e w' => e = .returned (tkV (dwR N [b])) ∧ Below W.heap.size W w' := fun b hb W hN hT g hr =>
    sdraw_any W N A c 1 1 [b] (some ⟨g, 0, none⟩) hlen hN hT hin rfl (by decide) hr (one_byte b hb)
  have hne : needE N = 0 := by unfold needE; rw [if_pos hc, if_neg h0]
  rw [hf] at hfw
  rw [hc] at hck
  rw [hap2] at hap
  rw [hne] at hnd
  have hsu := manyN_succ N
  have hle := manyN_le N
  obtain ⟨M, hM⟩ : ∃ M, 2 ^ n = M := ⟨_, rfl⟩
  have hM2 : M ≤ 64 := by rw [← hM]; exact Nat.le_trans (Nat.pow_le_pow_right (by decide) hn6) (by decide)
  have hMi : IntKind.i64.wrap ((2 : Int) ^ n) = (M : Int) := by
    rw [← hM, Int.natCast_pow]; exact IntWalk.i64_in _ (by rw [show ((2 : Int) ^ n) = ((2 ^ n : Nat) : Int) by simp, hM]; omega)
  have hMi2 : IntKind.i64.wrap (1 * (2 : Int) ^ n) = (M : Int) := by rw [Int.one_mul]; exact hMi
  rw [hM] at hVe hsm
  have HFW := Lib.hid hfw
  have HCK := Lib.hid hck
  have HAP := Lib.hid hap
  have HND := Lib.hid hnd
  have HEV := Lib.hid hev
  have HDW := Lib.hid hdw
  have HVE := Lib.hid hVe
  have HSM := Lib.hid hsm
  have HSU := Lib.hid hsu
  have HLE := Lib.hid hle
  have HMI := Lib.hid hMi
  have HMI2 := Lib.hid hMi2
  have d1 : decide (6 < (n : Int)) = false := decide_eq_false (by omega)
  obtain ⟨K, hK⟩ : ∃ K, needK N = K := ⟨_, rfl⟩
  rw [hK] at HND hk
  clear hfw hck hap hnd hev hdw hVe hsm hsu hle hMi hMi2 hM hne hkk hK hdet hc hap2 h0 hv hf hin
  have hk4 : K = 0 ∨ K = 1 ∨ K = 2 ∨ K = 4 := hk
  clear hk
  have hNn : N.n = (n : Int) := hn
  obtain ⟨EVB, hEVB⟩ : ∃ f, evB N = f := ⟨_, rfl⟩
  obtain ⟨DW, hDW⟩ : ∃ f, (fun b => dwR N [b]) = f := ⟨_, rfl⟩
  obtain ⟨MN, hMN⟩ : ∃ f, manyN N = f := ⟨_, rfl⟩
  have hdwb : ∀ b, dwR N [b] = DW b := fun b => congrFun hDW b
  have HDWB := Lib.hid hdwb
  have HM0 := Lib.hid (show ∀ j, MN 0 j = 0 from fun j => by rw [← hMN]; rfl)
  have HMF := Lib.hid (show ∀ k j, manyF N k j = .int .i64 ((MN k j : Nat) : Int) from fun k j => by unfold manyF; rw [hMN])
  simp only [hdwb] at HSM HSU
  simp only [hMN] at HVE HSU HLE
  simp only [hEVB] at HVE HEV
  clear hEVB hDW hMN hdwb hNn
  obtain ⟨Nn, l⟩ := N
  simp only at hn
  subst hn
  have q0 := (Bag.zero w).new #[.int .i64 (n : Int), .slice A l.length c] 24 w.heap.size 2 rfl rfl
  have HNT := Lib.hid (fun W (hb : Below w.heap.size w W) => (hN.below hb).more hb.size)
  have HTB := Lib.hid (fun W (hb : Below w.heap.size w W) => hT.below hb)
  clear hN hT
  go_enter Tryz.func5, Tryz.ntmps5
  go_wp2_with fail
  refine (HFW.out _ (HNT.out _ q0.bl)).mono ?_
  rintro e w1 ⟨rfl, hb1⟩
  have q1 := q0.below hb1
  have m11 := q1.is w.heap.size 2 24 #[.int .i64 (n : Int), .slice A l.length c] (by simp) 0 (by decide) (.int .i64 (n : Int)) rfl
  have m12 := q1.is w.heap.size 2 24 #[.int .i64 (n : Int), .slice A l.length c] (by simp) 1 (by decide) (.slice A l.length c) rfl
  clear hb1
  go_wp2_with fail
  refine (HCK.out _ (HNT.out _ q1.bl)).mono ?_
  rintro e w2 ⟨rfl, hb2⟩
  have q2 := q1.below hb2
  have m21 := q2.is w.heap.size 2 24 #[.int .i64 (n : Int), .slice A l.length c] (by simp) 0 (by decide) (.int .i64 (n : Int)) rfl
  have m22 := q2.is w.heap.size 2 24 #[.int .i64 (n : Int), .slice A l.length c] (by simp) 1 (by decide) (.slice A l.length c) rfl
  clear hb2 m11 m12
  go_wp2_with fail
  refine (HAP.out _ (HNT.out _ q2.bl)).mono ?_
  rintro e w3 ⟨rfl, hb3⟩
  have q3 := q2.below hb3
  have m31 := q3.is w.heap.size 2 24 #[.int .i64 (n : Int), .slice A l.length c] (by simp) 0 (by decide) (.int .i64 (n : Int)) rfl
  have m32 := q3.is w.heap.size 2 24 #[.int .i64 (n : Int), .slice A l.length c] (by simp) 1 (by decide) (.slice A l.length c) rfl
  clear hb3 m21 m22
  go_wp2_with fail
  refine (HND.out _ (HNT.out _ q3.bl) (HTB.out _ q3.bl)).mono ?_
  rintro e w4 ⟨rfl, hb4⟩
  have q4 := q3.below hb4
  have m41 := q4.is w.heap.size 2 24 #[.int .i64 (n : Int), .slice A l.length c] (by simp) 0 (by decide) (.int .i64 (n : Int)) rfl
  have m42 := q4.is w.heap.size 2 24 #[.int .i64 (n : Int), .slice A l.length c] (by simp) 1 (by decide) (.slice A l.length c) rfl
  clear hb4 m31 m32
  go_upto_region 6 with (fail)
  go_cut [64] from 51 to 63 (fun x wx => x = .bool false ∧ wx = w4)
  case first =>
    rcases hk4 with rfl | rfl | rfl | rfl
    all_goals
      go_wp2_with fail
      go_meet
      exact ⟨rfl, rfl⟩
  case rest =>
    obtain ⟨rfl, rfl⟩ := hcut
    clear hk4
    have r0 : ∀ a : Array Value, a.size = 64 → (∀ i, i < 64 → arrF a i = .int .i64 0) → (wc.alloc (.cells a 40)).rowIs wc.heap.size 40 64 (fun j => .int .i64 ((MN 0 j : Nat) : Int)) := fun a h1 h2 => (arrNew wc a 40 _ 64 rfl h1).congr fun i hi => by rw [h2 i hi, HM0.out]; rfl
    have r1 := r0 #[.int .i64 0, .int .i64 0, .int .i64 0, .int .i64 0, .int .i64 0, .int .i64 0, .int .i64 0, .int .i64 0, .int .i64 0, .int .i64 0, .int .i64 0, .int .i64 0, .int .i64 0, .int .i64 0, .int .i64 0, .int .i64 0, .int .i64 0, .int .i64 0, .int .i64 0, .int .i64 0, .int .i64 0, .int .i64 0, .int .i64 0, .int .i64 0, .int .i64 0, .int .i64 0, .int .i64 0, .int .i64 0, .int .i64 0, .int .i64 0, .int .i64 0, .int .i64 0, .int .i64 0, .int .i64 0, .int .i64 0, .int .i64 0, .int .i64 0, .int .i64 0, .int .i64 0, .int .i64 0, .int .i64 0, .int .i64 0, .int .i64 0, .int .i64 0, .int .i64 0, .int .i64 0, .int .i64 0, .int .i64 0, .int .i64 0, .int .i64 0, .int .i64 0, .int .i64 0, .int .i64 0, .int .i64 0, .int .i64 0, .int .i64 0, .int .i64 0, .int .i64 0, .int .i64 0, .int .i64 0, .int .i64 0, .int .i64 0, .int .i64 0, .int .i64 0] rfl zero64
    have hlt4 : w.heap.size < wc.heap.size := q4.lt0
    have q5 := q4.alloc (.cells #[.int .i64 0, .int .i64 0, .int .i64 0, .int .i64 0, .int .i64 0, .int .i64 0, .int .i64 0, .int .i64 0, .int .i64 0, .int .i64 0, .int .i64 0, .int .i64 0, .int .i64 0, .int .i64 0, .int .i64 0, .int .i64 0, .int .i64 0, .int .i64 0, .int .i64 0, .int .i64 0, .int .i64 0, .int .i64 0, .int .i64 0, .int .i64 0, .int .i64 0, .int .i64 0, .int .i64 0, .int .i64 0, .int .i64 0, .int .i64 0, .int .i64 0, .int .i64 0, .int .i64 0, .int .i64 0, .int .i64 0, .int .i64 0, .int .i64 0, .int .i64 0, .int .i64 0, .int .i64 0, .int .i64 0, .int .i64 0, .int .i64 0, .int .i64 0, .int .i64 0, .int .i64 0, .int .i64 0, .int .i64 0, .int .i64 0, .int .i64 0, .int .i64 0, .int .i64 0, .int .i64 0, .int .i64 0, .int .i64 0, .int .i64 0, .int .i64 0, .int .i64 0, .int .i64 0, .int .i64 0, .int .i64 0, .int .i64 0, .int .i64 0, .int .i64 0] 40)
    clear r0
    go_wp2_with fail
    generalize wc.alloc (.cells #[.int .i64 0, .int .i64 0, .int .i64 0, .int .i64 0, .int .i64 0, .int .i64 0, .int .i64 0, .int .i64 0, .int .i64 0, .int .i64 0, .int .i64 0, .int .i64 0, .int .i64 0, .int .i64 0, .int .i64 0, .int .i64 0, .int .i64 0, .int .i64 0, .int .i64 0, .int .i64 0, .int .i64 0, .int .i64 0, .int .i64 0, .int .i64 0, .int .i64 0, .int .i64 0, .int .i64 0, .int .i64 0, .int .i64 0, .int .i64 0, .int .i64 0, .int .i64 0, .int .i64 0, .int .i64 0, .int .i64 0, .int .i64 0, .int .i64 0, .int .i64 0, .int .i64 0, .int .i64 0, .int .i64 0, .int .i64 0, .int .i64 0, .int .i64 0, .int .i64 0, .int .i64 0, .int .i64 0, .int .i64 0, .int .i64 0, .int .i64 0, .int .i64 0, .int .i64 0, .int .i64 0, .int .i64 0, .int .i64 0, .int .i64 0, .int .i64 0, .int .i64 0, .int .i64 0, .int .i64 0, .int .i64 0, .int .i64 0, .int .i64 0, .int .i64 0] 40) = W5 at r1 q5 ⊢
    have n5 := q5.rows (w.heap.size, 24, 2, #[.int .i64 (n : Int), .slice A l.length c]) (by simp)
    have b5 := q5.bl
    generalize wc.heap.size = B8 at *
    clear q0 q1 q2 q3 q4 q5 m41 m42
    go_loopw [6] (fun t wr => ∃ k : Nat, k ≤ 256 ∧ t = .int .i64 (k : Int) ∧ wr.rowIs w.heap.size 24 2 (arrF #[.int .i64 (n : Int), .slice A l.length c]) ∧ wr.rowIs B8 40 64 (fun j => .int .i64 ((MN k j : Nat) : Int)) ∧ Below w.heap.size w wr) (fun t _ => 256 - (intOf t).toNat)
    case atStart => exact ⟨0, by omega, rfl, n5, r1, b5⟩
    case round =>
      clear n5 r1 b5
      obtain ⟨k, hk, rfl, n6, r6, b6⟩ := hrel
      have hs6 := r6.lt
      have hsn := n6.lt
      have m1 : wr.cell? ⟨w.heap.size, 0, none⟩ = some (.int .i64 (n : Int)) := n6.cell (i := 0) (by omega)
      have m2 : wr.cell? ⟨w.heap.size, 1, none⟩ = some (.slice A l.length c) := n6.cell (i := 1) (by omega)
      rcases Nat.lt_or_ge k 256 with hlt | hge
      · have hu8 : IntKind.u8.wrap (k : Int) = (k : Int) := by rw [IntKind.wrap_u8]; omega
        have hsm := HSM.out k
        have hsu := HSU.out k
        have hdw := HDW.out k hlt
        have hdk : dwR ⟨(n : Int), l⟩ [k] = DW k := HDWB.out k
        rw [hdk] at hdw
        obtain ⟨T, hT⟩ : ∃ T, DW k = T := ⟨_, rfl⟩
        rw [hT] at hsm hsu hdw
        clear hdk hT
        obtain ⟨a, u, ok, e⟩ := T
        simp only at hsm hsu
        obtain ⟨rfl, ha⟩ := hsm
        have hb2 : Below wr.heap.size wr (wr.alloc (.cells #[.int .u8 (k : Int)] 5)) := (Below.refl _ _).alloc (Nat.le_refl _) _
        have hr2 := boxNew wr (.int .u8 (k : Int)) 5 _ rfl
        have hr3 : (wr.alloc (.cells #[.int .u8 (k : Int)] 5)).rowIs wr.heap.size 5 1 (byF [k]) := hr2.congr (fun i hi => by
          obtain rfl : i = 0 := by omega
          rfl)
        have h4 : Rd (wr.alloc (.cells #[.int .u8 (k : Int)] 5)) (wr.alloc (.cells #[.int .u8 (k : Int)] 5)).heap.size (some ⟨wr.heap.size, 0, none⟩) 1 (byF [k]) := Rd.of_row hr3 (Nat.le_refl _) (by simp)
        have b7 := Cs.Below.trans' b6 hb2 b6.size
        have hd := hdw _ (HNT.out _ b7) (HTB.out _ b7) _ h4
        have HD := Lib.hid hd
        clear hdw hd hr2 hr3 h4
        cases ok
        · have HSK := Lib.hid hsu
          clear hsu ha
          have htv : tkV ⟨a, u, false, 0⟩ = .tuple #[.agg #[.int .u64 (lo a : Int), .int .u64 (hi a : Int)], .int .i64 (u : Int), .bool false, .int .i64 0] := rfl
          rw [htv] at HD
          clear htv
          go_wp2_with fail
          refine HD.out.mono ?_
          rintro e w6 ⟨rfl, hb6⟩
          have n7 := (rowBelow (n6.alloc (.cells #[.int .u8 (k : Int)] 5)) hb6).alloc (.cells #[.int .u64 (lo a : Int), .int .u64 (hi a : Int)] 30)
          have r7 := (rowBelow (r6.alloc (.cells #[.int .u8 (k : Int)] 5)) hb6).alloc (.cells #[.int .u64 (lo a : Int), .int .u64 (hi a : Int)] 30)
          have b8 := (Cs.Below.trans' b7 hb6 b7.size).alloc (Cs.Below.trans' b7 hb6 b7.size).size (.cells #[.int .u64 (lo a : Int), .int .u64 (hi a : Int)] 30)
          clear m1 m2 hb6
          go_wp2_with fail
          go_roundw
          case rel => exact ⟨k + 1, by omega, by go_num, n7, r7.congr (fun j _ => by rw [HSK.out j]; rfl), b8⟩
          case measure => simp [intOf]; omega
        · have ha64 : a < 64 := Nat.lt_of_lt_of_le (ha rfl) hM2
          have hla : (lo a : Int) = (a : Int) := by unfold lo; omega
          have hha : (hi a : Int) = 0 := by unfold hi; omega
          have htv : tkV ⟨a, u, true, 0⟩ = .tuple #[.agg #[.int .u64 (a : Int), .int .u64 0], .int .i64 (u : Int), .bool true, .int .i64 0] := by
            show Value.tuple #[.agg #[.int .u64 (lo a : Int), .int .u64 (hi a : Int)], _, _, _] = _
            rw [hla, hha]
          rw [htv] at HD
          have HSK := Lib.hid hsu
          have hle := HLE.out k a
          clear htv hla hha hsu ha
          go_wp2_with fail
          refine HD.out.mono ?_
          rintro e w6 ⟨rfl, hb6⟩
          have n7 := rowBelow (n6.alloc (.cells #[.int .u8 (k : Int)] 5)) hb6
          have r7 := rowBelow (r6.alloc (.cells #[.int .u8 (k : Int)] 5)) hb6
          have b8 := Cs.Below.trans' b7 hb6 b7.size
          have hs7 := r7.lt
          have c1 := r7.cell (i := a) ha64
          have f1 := r7.frozen a
          have g1 : decide ((64 : Int) ≤ (a : Int)) = false := decide_eq_false (by omega)
          have g2 : (0 : Int) ≤ (a : Int) := by omega
          have g3 : (a : Int) < 64 := by omega
          have r8 := r7.set a (.int .i64 (((MN k a : Nat) : Int) + 1))
          have R8 := Lib.hid r8
          clear m1 m2 hb6 r8
          go_wp2_with fail
          go_roundw
          case rel =>
            refine ⟨k + 1, by omega, by go_num, ?_, ?_, ?_⟩
            · first | exact (n7.setOther (a := ⟨B8, a, none⟩) (show w.heap.size ≠ B8 by omega) _).alloc _ | exact (n7.alloc _).setOther (a := ⟨B8, a, none⟩) (show w.heap.size ≠ B8 by omega) _
            · have r9 : (w6.setCell ⟨B8, a, none⟩ (.int .i64 (((MN k a : Nat) : Int) + 1))).rowIs B8 40 64 (fun j => .int .i64 ((MN (k + 1) j : Nat) : Int)) := R8.out.congr fun j hj => by
                rw [HSK.out j]
                by_cases e : j = a
                · subst e
                  rw [if_pos rfl, if_pos (by simp)]
                  rfl
                · rw [if_neg e, if_neg (by simp; omega)]
                  rfl
              first | exact r9.alloc _ | exact r9
            · first | exact (b8.setCell (p := ⟨B8, a, none⟩) (show w.heap.size ≤ B8 by omega) _).alloc (by rw [size_setCell]; exact b8.size) _ | exact (b8.alloc b8.size _).setCell (p := ⟨B8, a, none⟩) (show w.heap.size ≤ B8 by omega) _
          case measure => simp [intOf]; omega
      · obtain rfl : k = 256 := by omega
        rw [show ((256 : Nat) : Int) = 256 from rfl]
        obtain ⟨W0, rfl⟩ : ∃ W0, W0 = wr := ⟨wr, rfl⟩
        have hve := HVE.out
        have HVE2 := Lib.hid hve
        clear hve
        generalize MN 256 = MV at *
        go_wp2_with fail
        go_loopw [11, 12] (fun f t wr => ∃ (k : Nat) (x : Int), k ≤ 64 ∧ t = .int .i64 (k : Int) ∧ f = .int .i64 x ∧ (x = -1 ∨ x = (V : Int)) ∧ wr.rowIs w.heap.size 24 2 (arrF #[.int .i64 (n : Int), .slice A l.length c]) ∧ wr.rowIs B8 40 64 (fun j => .int .i64 ((MV j : Nat) : Int)) ∧ Below w.heap.size w wr) (fun _ t _ => 64 - (intOf t).toNat)
        case atStart => exact ⟨0, -1, by omega, rfl, rfl, .inl rfl, n6, r6, b6⟩
        case round =>
          clear n6 r6 b6 hs6 hsn m1 m2
          obtain ⟨j, x, hj, rfl, rfl, hx, n6, r6, b6⟩ := hrel
          have hs6 := r6.lt
          have hsn := n6.lt
          have m1 : wr.cell? ⟨w.heap.size, 0, none⟩ = some (.int .i64 (n : Int)) := n6.cell (i := 0) (by omega)
          have m2 : wr.cell? ⟨w.heap.size, 1, none⟩ = some (.slice A l.length c) := n6.cell (i := 1) (by omega)
          have hmi := HMI.out
          have hmi2 := HMI2.out
          rcases Nat.lt_or_ge j 64 with hlt | hge
          · have g2 : (0 : Int) ≤ (j : Int) := by omega
            have g3 : (j : Int) < 64 := by omega
            obtain ⟨hv1, hv2⟩ := HVE2.out j
            rcases Nat.lt_or_ge j M with hjM | hjM
            · have d2 : decide ((j : Int) < (M : Int)) = true := decide_eq_true (by omega)
              have hla : (lo j : Int) = (j : Int) := by unfold lo; omega
              have hha : (hi j : Int) = 0 := by unfold hi; omega
              have hsv : setV j = .agg #[.int .u64 (j : Int), .int .u64 0] := by unfold setV; rw [hla, hha]
              have hev := fun W hN => HEV.out W j hN
              rw [hsv] at hev
              clear hla hha hsv
              cases hb : EVB j
              · have hc0 : MV j = 0 := hv2 (fun h => by rw [hb] at h; cases h.2)
                have c1 := r6.cell (i := j) hlt
                simp only [hc0] at c1
                rw [hb] at hev
                have HEV2 := Lib.hid hev
                clear hev hv1 hv2 hb hc0
                go_wp2_with fail
                refine (HEV2.out _ (HNT.out _ b6)).mono ?_
                rintro e w7 ⟨rfl, hb7⟩
                have n7 := rowBelow n6 hb7
                have r7 := rowBelow r6 hb7
                have b7 := Cs.Below.trans' b6 hb7 b6.size
                have c2 := below_cell hb7 hs6 c1
                clear m1 m2 hb7 c1 hmi hmi2
                go_wp2_with fail
                go_roundw
                case rel => exact ⟨j + 1, x, by omega, by go_num, rfl, hx, n7, r7, b7⟩
                case measure => simp [intOf]; omega
              · have hc0 : MV j = V := hv1 ⟨hjM, hb⟩
                have c1 := r6.cell (i := j) hlt
                simp only [hc0] at c1
                rw [hb] at hev
                have HEV2 := Lib.hid hev
                have v1 : ((V : Int) == 0) = false := beq_eq_false_iff_ne.2 (by omega)
                have v2 : decide ((V : Int) < 0) = false := decide_eq_false (by omega)
                clear hev hv1 hv2 hb hc0
                go_wp2_with fail
                refine (HEV2.out _ (HNT.out _ b6)).mono ?_
                rintro e w7 ⟨rfl, hb7⟩
                have n7 := rowBelow n6 hb7
                have r7 := rowBelow r6 hb7
                have b7 := Cs.Below.trans' b6 hb7 b6.size
                have c2 := below_cell hb7 hs6 c1
                clear m1 m2 hb7 c1 hmi hmi2
                rcases hx with rfl | rfl
                · have v0 : ((V : Int) == -1) = false := beq_eq_false_iff_ne.2 (by omega)
                  have v3 : decide ((-1 : Int) < 0) = true := by decide
                  have v4 : ((V : Int) != 0) = true := by simp [bne, v1]
                  go_wp2_with fail
                  go_roundw
                  case rel => exact ⟨j + 1, V, by omega, by go_num, rfl, .inr rfl, n7, r7, b7⟩
                  case measure => simp [intOf]; omega
                · go_wp2_with fail
                  go_roundw
                  case rel => exact ⟨j + 1, V, by omega, by go_num, rfl, .inr rfl, n7, r7, b7⟩
                  case measure => simp [intOf]; omega
            · have d2 : decide ((j : Int) < (M : Int)) = false := decide_eq_false (by omega)
              have hc0 : MV j = 0 := hv2 (fun h => by omega)
              have c1 := r6.cell (i := j) hlt
              simp only [hc0] at c1
              clear hv1 hv2 hc0
              go_wp2_with fail
              go_roundw
              case rel => exact ⟨j + 1, x, by omega, by go_num, rfl, hx, n6, r6, b6⟩
              case measure => simp [intOf]; omega
          · obtain rfl : j = 64 := by omega
            clear hmi hmi2
            go_wp2_with fail
            refine (works_any _ (HTB.out _ b6)).mono ?_
            rintro e w9 ⟨rfl, hb9⟩
            have hb := Cs.Below.trans' b6 hb9 b6.size
            go_wp2_with fail
            go_ret
            exact ⟨rfl, hb⟩
end Go.Proofs.YtgnobohfnhpkdaaGreatDoor
