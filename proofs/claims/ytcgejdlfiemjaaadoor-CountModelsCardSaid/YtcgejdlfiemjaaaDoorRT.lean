/- The walk of the reference's ones. -/
import Derived.Test.YtcgejdlfiemjaaaDoorR9
set_option linter.unusedSimpArgs false
set_option linter.unusedVariables false
open Go Go.RowKit Cs
namespace Go.Proofs.YtcgejdlfiemjaaaDoor
set_option maxRecDepth 100000 in
set_option maxHeartbeats 2000000 in
theorem rones_any (w : World) (n : Nat) (hn : n ≤ 128) : Calls Tryd.prog 36 #[.int .i64 n] w fun e w' => ∃ v U, e = .returned v ∧ SR w v (n + 1) U (List.replicate (n + 1) [1]) w' := by
  obtain ⟨ti, hti, ht0, ht1, ht2⟩ := info_parts info_poly
  go_enter Tryd.func36, Tryd.ntmps36
  go_wp2
  go_loopw [3, 4] (fun v t wr => ∃ (k : Nat) (U : List Value), k ≤ n + 1 ∧ t = .int .i64 k ∧ SR w v k U (List.replicate k [1]) wr) (fun _ t _ => n + 1 - (intOf t).toNat)
  case atStart => exact ⟨0, [], by omega, rfl, ⟨World.ownsRow_nil _ _ _ _, RPls.nil _, Below.refl _ _⟩⟩
  case round =>
    obtain ⟨k, U, hk, rfl, hE⟩ := hrel
    by_cases hlt : k < n + 1
    · have hi1 : (k : Int) ≤ (n : Int) := by omega
      have hz := hE.bl.size
      have hE2 := (hE.alloc (.cells #[.string ⟨#[49]⟩] 9)).alloc (.cells #[.slice (some ⟨wr.heap.size, 0, none⟩) 1 1] 69)
      have e1 : (wr.alloc (.cells #[.string ⟨#[49]⟩] 9)).heap.size = wr.heap.size + 1 := by simp
      have hnew : ∀ j u, ([.slice (some ⟨wr.heap.size, 0, none⟩) 1 1] : List Value)[j]? = some u → ((wr.alloc (.cells #[.string ⟨#[49]⟩] 9)).alloc (.cells #[.slice (some ⟨wr.heap.size, 0, none⟩) 1 1] 69)).cell? ((⟨wr.heap.size + 1, 0, none⟩ : Addr).add j) = some u := fun j u h => by
        have h1 := newOne (w := wr.alloc (.cells #[.string ⟨#[49]⟩] 9)) (t := 69) j u h
        rw [e1] at h1
        exact h1
      have hr := (((oneStr wr wr.heap.size rfl).below (w' := (wr.alloc (.cells #[.string ⟨#[49]⟩] 9)).alloc (.cells #[.slice (some ⟨wr.heap.size, 0, none⟩) 1 1] 69)) (((Below.refl _ _).alloc (by simp) _))).more (B' := ((wr.alloc (.cells #[.string ⟨#[49]⟩] 9)).alloc (.cells #[.slice (some ⟨wr.heap.size, 0, none⟩) 1 1] 69)).heap.size) (by simp))
      have HE2 := Lib.hid hE2
      have hown := hE2.own
      have HR := Lib.hid hr
      clear hE hE2 hr
      go_wp2_with (at_builtin; refine wpList_append_own _ rfl _ _ 71 rfl w.heap.size 69 ti (.slice none 0 0) 1 24 Tryd.underlying71 hti ht0 ht1 ht2 rfl (by decide) _ _ _ rfl hown ⟨wr.heap.size + 1, 0, none⟩ 1 1 [.slice (some ⟨wr.heap.size, 0, none⟩) 1 1] rfl rfl hnew oneSlice (by unfold maxLen; omega) (by omega) (by simp; omega) ?_; intro v' w3 hown3 hgr3 _)
      have hE3 := HE2.out.next (p := [1]) (c := 1) (Nat.le_refl _) HR.out hown3 hgr3
      rw [← List.replicate_succ'] at hE3
      go_wp2
      go_roundw
      case rel => exact ⟨k + 1, _, by omega, by go_num, hE3⟩
      case measure => simp [intOf]; omega
    · obtain rfl : k = n + 1 := by omega
      have hi1 : ¬ ((n : Int) + 1) ≤ (n : Int) := by omega
      go_wp2
      go_ret
      exact ⟨_, rfl, _, hE⟩
end Go.Proofs.YtcgejdlfiemjaaaDoor
