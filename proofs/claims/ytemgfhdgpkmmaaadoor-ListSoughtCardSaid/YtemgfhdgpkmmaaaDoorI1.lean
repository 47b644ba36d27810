/- The walks of the references' small functions: sets and literals. -/
import Derived.Test.YtemgfhdgpkmmaaaDoorL1
set_option linter.unusedSimpArgs false
set_option linter.unusedVariables false
open Go Go.RowKit Cs
namespace Cs
theorem bit_intI (x k : Nat) : ((((x : Nat) : Int) / 2 ^ k).tmod 2 == 1) = x.testBit k := by
  have e : ((x : Nat) : Int) / 2 ^ k = ((x / 2 ^ k : Nat) : Int) := by rw [Int.natCast_ediv, Int.natCast_pow]; rfl
  have e2 : (((x / 2 ^ k : Nat) : Int)).tmod 2 = ((x / 2 ^ k % 2 : Nat) : Int) := (Int.ofNat_tmod _ 2).symm
  rw [e, e2, Nat.testBit_eq_decide_div_mod_eq, Bool.eq_iff_iff]
  simp
  omega
end Cs
namespace Go.Proofs.YtemgfhdgpkmmaaaDoor
set_option maxRecDepth 100000 in
set_option maxHeartbeats 1000000 in
theorem has5_any (w : World) (s : Nat) (v : Int) : Calls Tryd.prog 73 #[setV s, .int .i64 v] w fun e w' => e = .returned (.bool (has s v)) ∧ Below w.heap.size w w' := by
  have hbl : Below w.heap.size w (w.alloc (.cells #[.int .u64 (lo s : Int), .int .u64 (hi s : Int)] 27)) := (Below.refl _ _).alloc (Nat.le_refl _) _
  have l1 := lo_lt s
  have l2 := hi_lt s
  by_cases hv : 1 ≤ v ∧ v ≤ 128
  · obtain ⟨hv1, hv2⟩ := hv
    obtain ⟨n, rfl⟩ : ∃ n : Nat, v = (n : Int) + 1 := ⟨(v - 1).toNat, by omega⟩
    have hh : has s ((n : Int) + 1) = s.testBit n := by rw [has_bit s _ hv1 hv2]; congr 1
    rw [hh]
    clear hh
    have hlo := lo_bit s n
    have hhi := hi_bit s (n - 64)
    rcases Nat.lt_or_ge n 64 with h | h
    · have hq : (n : Int) / 64 = 0 := by omega
      have hr : (n : Int) % 64 = (n : Int) := by omega
      have hb := bit_intI (lo s) n
      rw [hlo, decide_eq_true h, Bool.true_and] at hb
      have HB := Lib.hid hb
      clear hlo hhi hb
      go_enter Tryd.func73, Tryd.ntmps73
      go_wp2
      go_ret
      exact ⟨congrArg (fun b => Ending.returned (.bool b)) HB.out, hbl⟩
    · have hq : (n : Int) / 64 = 1 := by omega
      have hr : (n : Int) % 64 = (n : Int) - 64 := by omega
      have i0 : (0 : Int) ≤ (n : Int) - 64 := by omega
      have i1 : (n : Int) - 64 < 64 := by omega
      have hb := bit_intI (hi s) (n - 64)
      rw [hhi, show n - 64 + 64 = n by omega, decide_eq_true (by omega), Bool.true_and] at hb
      have HB := Lib.hid hb
      clear hlo hhi hb
      go_enter Tryd.func73, Tryd.ntmps73
      go_wp2
      go_ret
      exact ⟨congrArg (fun b => Ending.returned (.bool b)) HB.out, hbl⟩
  · have hh : has s v = false := by unfold has; rw [decide_eq_false hv]; rfl
    rw [hh]
    clear hh
    rcases Int.lt_or_le v 1 with h | h
    · have hd : decide (1 ≤ v) = false := decide_eq_false (by omega)
      clear hv
      go_enter Tryd.func73, Tryd.ntmps73
      go_wp2
      go_ret
      exact ⟨rfl, hbl⟩
    · have hd : decide (v ≤ 128) = false := decide_eq_false (by omega)
      clear hv
      go_enter Tryd.func73, Tryd.ntmps73
      go_wp2
      go_ret
      exact ⟨rfl, hbl⟩
theorem litOk_nat (l n : Int) (h0 : 0 ≤ n) (hn : n ≤ 128) : litOk l n = (decide (l ≠ 0) && decide (-n ≤ l) && decide (l ≤ n)) := by
  unfold litOk litVar
  rw [Bool.eq_iff_iff]
  simp
  by_cases h1 : 1 ≤ l ∧ l ≤ 128
  · rw [if_pos h1]; omega
  · rw [if_neg h1]
    by_cases h2 : l ≤ -1 ∧ -128 ≤ l
    · rw [if_pos h2]; omega
    · rw [if_neg h2]; omega
set_option maxRecDepth 100000 in
set_option maxHeartbeats 1000000 in
theorem valid5_any (w : World) (l n : Int) (h0 : 0 ≤ n) (hn : n ≤ 128) : Calls Tryd.prog 69 #[.int .i64 l, .int .i64 n] w fun e w' => e = .returned (.bool (litOk l n)) ∧ w = w' := by
  rw [litOk_nat l n h0 hn]
  by_cases h1 : l = 0
  · subst h1
    go_enter Tryd.func69, Tryd.ntmps69
    go_wp2
    go_ret
    exact ⟨rfl, rfl⟩
  · rw [decide_eq_true h1, Bool.true_and]
    have hb1 : (l != 0) = true := bne_iff_ne.2 h1
    by_cases h2 : -n ≤ l
    · rw [decide_eq_true h2, Bool.true_and]
      go_enter Tryd.func69, Tryd.ntmps69
      go_wp2
      go_ret
      exact ⟨rfl, rfl⟩
    · rw [decide_eq_false h2, Bool.false_and]
      go_enter Tryd.func69, Tryd.ntmps69
      go_wp2
      go_ret
      exact ⟨rfl, rfl⟩
/-- Holds, at a literal of 128 variables. -/
theorem holds5_any (w : World) (s : Nat) (l : Int) (hl : litVar l ≠ 0) : Calls Tryd.prog 107 #[setV s, .int .i64 l] w fun e w' => e = .returned (.bool (hld s l)) ∧ Below w.heap.size w w' := by
  have hbl : Below w.heap.size w (w.alloc (.cells #[.int .u64 (lo s : Int), .int .u64 (hi s : Int)] 27)) := (Below.refl _ _).alloc (Nat.le_refl _) _
  have hq := setNew w s 27 w.heap.size rfl
  obtain ⟨c1, c2, _, _⟩ := setCells hq
  have hrng : (1 ≤ l ∧ l ≤ 128) ∨ (l ≤ -1 ∧ -128 ≤ l) := by
    unfold litVar at hl
    by_cases h1 : 1 ≤ l ∧ l ≤ 128
    · exact .inl h1
    · rw [if_neg h1] at hl
      by_cases h2 : l ≤ -1 ∧ -128 ≤ l
      · exact .inr h2
      · rw [if_neg h2] at hl; exact absurd rfl hl
  rcases hrng with ⟨h1, h2⟩ | ⟨h1, h2⟩
  · have e : hld s l = has s l := by
      unfold hld litVar
      rw [if_pos ⟨h1, h2⟩, has_bit s l h1 h2, decide_eq_true (show l ≠ 0 by omega), decide_eq_true (show 0 < l by omega)]
      simp
    rw [e]
    have hh := fun W => has5_any W s l
    have HH := Lib.hid hh
    clear hh e hl
    go_enter Tryd.func107, Tryd.ntmps107
    go_wp2_with (go_at_call 73; (with_reducible refine (HH.out _).mono ?_); rintro e w' ⟨rfl, hb⟩)
    go_ret
    exact ⟨rfl, Cs.Below.trans' hbl hb hbl.size⟩
  · have e : hld s l = !has s (-l) := by
      unfold hld litVar
      rw [if_neg (by omega), if_pos ⟨h1, h2⟩, has_bit s (-l) (by omega) (by omega), decide_eq_true (show -l ≠ 0 by omega), decide_eq_false (show ¬ 0 < l by omega)]
      simp
    rw [e]
    have hh := fun W => has5_any W s (-l)
    have HH := Lib.hid hh
    clear hh e hl
    go_enter Tryd.func107, Tryd.ntmps107
    go_wp2_with (go_at_call 73; (with_reducible refine (HH.out _).mono ?_); rintro e w' ⟨rfl, hb⟩)
    go_ret
    exact ⟨rfl, Cs.Below.trans' hbl hb hbl.size⟩
theorem out_bit (a : Nat) (n : Nat) (ha : IsSet a) (hn : n ≤ 128) : minus a (allTo (n : Int)) = 0 ↔ ∀ i, n ≤ i → i < 128 → a.testBit i = false := by
  constructor
  · intro h i h1 h2
    have := congrArg (fun x => x.testBit i) h
    simp only [minus_bit, allTo_bit, Nat.zero_testBit] at this
    rw [decide_eq_false (show ¬ i < (min (n : Int) 128).toNat by omega)] at this
    simpa using this
  · intro h
    apply Nat.eq_of_testBit_eq; intro i
    rw [minus_bit, allTo_bit, Nat.zero_testBit]
    by_cases h1 : i < n
    · rw [decide_eq_true (show i < (min (n : Int) 128).toNat by omega)]; simp
    · by_cases h2 : i < 128
      · rw [h i (by omega) h2]; rfl
      · rw [Nat.testBit_lt_two_pow (Nat.lt_of_lt_of_le (show a < 2 ^ 128 by unfold IsSet at ha; omega) (Nat.pow_le_pow_right (by decide) (by omega)))]; rfl
set_option maxRecDepth 100000 in
set_option maxHeartbeats 1000000 in
theorem assignment5_any (w : World) (a n : Nat) (ha : IsSet a) (hn : n ≤ 128) : Calls Tryd.prog 59 #[setV a, .int .i64 (n : Int)] w fun e w' => e = .returned (.bool (decide (minus a (allTo (n : Int)) = 0))) ∧ Below w.heap.size w w' := by
  have hbl : Below w.heap.size w (w.alloc (.cells #[.int .u64 (lo a : Int), .int .u64 (hi a : Int)] 27)) := (Below.refl _ _).alloc (Nat.le_refl _) _
  have hq := setNew w a 27 w.heap.size rfl
  have hob := out_bit a n ha hn
  obtain ⟨B, hB⟩ : ∃ B, decide (minus a (allTo (n : Int)) = 0) = B := ⟨_, rfl⟩
  rw [hB]
  have hT : (∀ i, n ≤ i → i < 128 → a.testBit i = false) → B = true := fun h => by rw [← hB]; exact decide_eq_true (hob.2 h)
  have hF : ∀ i, n ≤ i → i < 128 → a.testBit i = true → B = false := fun i h1 h2 h3 => by
    rw [← hB]; exact decide_eq_false fun h => by rw [hob.1 h i h1 h2] at h3; cases h3
  have HT := Lib.hid hT
  have HF := Lib.hid hF
  clear hob hB hT hF
  go_enter Tryd.func59, Tryd.ntmps59
  go_wp2
  go_loopw [5] (fun t wr => ∃ k : Nat, n ≤ k ∧ k ≤ 128 ∧ t = .int .i64 ((k : Int) + 1) ∧ Hid (∀ i, n ≤ i → i < k → a.testBit i = false) ∧ wr.rowIs w.heap.size 27 2 (setF a) ∧ Below w.heap.size w wr) (fun t _ => 129 - (intOf t).toNat)
  case atStart => exact ⟨n, Nat.le_refl _, hn, rfl, fun i h1 h2 => absurd h2 (by omega), hq, hbl⟩
  case round =>
    clear hq hbl
    obtain ⟨k, hk1, hk2, rfl, HK, hq, hbl⟩ := hrel
    by_cases hlt : k < 128
    · obtain ⟨c1, c2, _, _⟩ := setCells hq
      have hh := has_bit a ((k : Int) + 1) (by omega) (by omega)
      rw [show ((k : Int) + 1).toNat - 1 = k by omega] at hh
      have hc := fun W => has5_any W a ((k : Int) + 1)
      simp only [hh] at hc
      cases hb : a.testBit k
      · simp only [hb] at hc
        have HC := Lib.hid hc
        have HB := Lib.hid hb
        clear hc hb hh
        go_wp2_with (go_at_call 73; (with_reducible refine (HC.out _).mono ?_); rintro e w' ⟨rfl, hb⟩)
        go_roundw
        case rel =>
          refine ⟨k + 1, by omega, by omega, by go_num, fun i h1 h2 => ?_, rowBelow hq hb, Cs.Below.trans' hbl hb hbl.size⟩
          rcases Nat.lt_or_ge i k with h | h
          · exact HK.out i h1 h
          · obtain rfl : i = k := by omega
            exact HB.out
        case measure => simp [intOf]; omega
      · simp only [hb] at hc
        have HC := Lib.hid hc
        have h2 := HF.out k hk1 hlt hb
        have HB := Lib.hid h2
        clear hc hb hh h2
        go_wp2_with (go_at_call 73; (with_reducible refine (HC.out _).mono ?_); rintro e w' ⟨rfl, hb⟩)
        go_ret
        exact ⟨by rw [HB.out]; try rfl, Cs.Below.trans' hbl hb hbl.size⟩
    · obtain rfl : k = 128 := by omega
      have h2 := HT.out HK.out
      have HB := Lib.hid h2
      clear h2
      go_wp2
      go_ret
      exact ⟨by rw [HB.out]; try rfl, hbl⟩
end Go.Proofs.YtemgfhdgpkmmaaaDoor
