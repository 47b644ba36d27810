/- The walk of the reference's short. -/
import Derived.Test.YtcgejdlfiemjaaaDoorRT
set_option linter.unusedSimpArgs false
set_option linter.unusedVariables false
open Go Go.RowKit Cs
namespace Go.Proofs.YtcgejdlfiemjaaaDoor
set_option maxRecDepth 100000 in
set_option maxHeartbeats 2000000 in
theorem rshort1_any (w : World) (V : Nat) (hV : decN V ≤ 10000000) : Calls Tryd.prog 76 #[.string (dec V)] w fun e w' => e = .returned (.bool (decide (V < big))) ∧ Below w.heap.size w w' := by
  have hsz := dec_size V
  have hbz := dec_size big
  rw [decN_big] at hbz
  have hld := less_dec V big
  rw [decN_big] at hld
  have hpw : ∀ W, Calls Tryd.prog 78 #[.int .i64 4096] W fun e w' => e = .returned (.string (dec big)) ∧ Below W.heap.size W w' := fun W => by
    have h := rpow2_any W bigE (by rw [bigE_eq]; decide)
    rw [← big_eq, show ((bigE : Nat) : Int) = 4096 by rw [bigE_eq]; rfl] at h
    exact h
  have hlt : decN V < 1234 → V < big := fun h => by
    rcases Nat.lt_or_ge V big with h1 | h1
    · exact h1
    · have := decN_mono h1; rw [decN_big] at this; omega
  have hgt : 1234 < decN V → ¬ V < big := fun h h1 => by
    have := decN_mono (Nat.le_of_lt h1); rw [decN_big] at this; omega
  obtain ⟨B, hB⟩ : ∃ B, decide (V < big) = B := ⟨_, rfl⟩
  rw [hB] at hld ⊢
  have HLT : decN V < 1234 → B = true := fun h => by rw [← hB, decide_eq_true (hlt h)]
  have HGT : 1234 < decN V → B = false := fun h => by rw [← hB, decide_eq_false (hgt h)]
  obtain ⟨s, hs⟩ : ∃ s, dec V = s := ⟨_, rfl⟩
  obtain ⟨t, ht⟩ : ∃ t, dec big = t := ⟨_, rfl⟩
  rw [hs] at hsz hld ⊢
  simp only [ht] at hbz hld hpw
  clear hlt hgt hB hs ht
  rw [← hsz] at hld HLT HGT hV
  clear hsz
  have HPW := Lib.hid hpw
  clear hpw
  rcases Nat.lt_trichotomy s.size 1234 with h | h | h
  · obtain rfl := HLT h
    have h1 : ¬ ((s.size : Int) = 1234) := by omega
    have h2 : (s.size : Int) < 1234 := by omega
    clear hld HLT HGT
    go_enter Tryd.func76, Tryd.ntmps76
    go_wp2
    go_ret
    exact ⟨rfl, Below.refl _ _⟩
  · have h1 : (s.size : Int) = 1234 := by omega
    have h3 := hld h
    rw [← ByteArray.toList_eq, ← ByteArray.toList_eq] at h3
    have h4 : s.size = t.size := by omega
    have H3 := Lib.hid h3
    have H4 := Lib.hid h4
    clear hld HLT HGT h3 h4 h
    cases B
    · go_enter Tryd.func76, Tryd.ntmps76
      go_wp2_with fail
      refine (HPW.out _).mono ?_
      rintro e w5 ⟨rfl, hb5⟩
      go_wp2_with fail
      refine (rcmp_ge w5 s t H4.out H3.out).mono ?_
      rintro e w6 ⟨x, hx, hx2, rfl, rfl⟩
      have hx3 : decide (x < 0) = false := decide_eq_false (by omega)
      go_wp2
      go_ret
      exact ⟨rfl, hb5⟩
    · go_enter Tryd.func76, Tryd.ntmps76
      go_wp2_with fail
      refine (HPW.out _).mono ?_
      rintro e w5 ⟨rfl, hb5⟩
      go_wp2_with fail
      refine (rcmp_lt w5 s t H4.out H3.out).mono ?_
      rintro e w6 ⟨rfl, rfl⟩
      go_wp2
      go_ret
      exact ⟨rfl, hb5⟩
  · obtain rfl := HGT h
    have h1 : ¬ ((s.size : Int) = 1234) := by omega
    have h2 : ¬ (s.size : Int) < 1234 := by omega
    clear hld HLT HGT
    go_enter Tryd.func76, Tryd.ntmps76
    go_wp2
    go_ret
    exact ⟨rfl, Below.refl _ _⟩
end Go.Proofs.YtcgejdlfiemjaaaDoor
