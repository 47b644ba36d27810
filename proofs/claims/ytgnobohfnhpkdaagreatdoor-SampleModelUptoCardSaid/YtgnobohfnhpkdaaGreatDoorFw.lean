/- The walk of the law's Few. -/
import Derived.Test.YtgnobohfnhpkdaaGreatDoorN4
import Derived.WalkMore
set_option linter.unusedSimpArgs false
set_option linter.unusedVariables false
open Go Go.RowKit Cs
namespace Go.Proofs.YtgnobohfnhpkdaaGreatDoor
def insN : List Nd → Nat
  | [] => 0
  | x :: xs => x.ins.length + insN xs
theorem insN_snoc (x : Nd) : ∀ xs : List Nd, insN (xs ++ [x]) = insN xs + x.ins.length
  | [] => by simp [insN]
  | y :: ys => by simp only [List.cons_append, insN, insN_snoc x ys]; omega
def fewB (N : Nt) : Bool := decide (N.l.length ≤ 60) && decide (insN N.l ≤ 300)
set_option maxRecDepth 100000 in
set_option maxHeartbeats 400000 in
theorem few_any (w : World) (N : Nt) (A : Option Addr) (c : Nat) (hlen : N.l.length ≤ 140737488355328) (hN : NtAt w w.heap.size A N.l) :
    Calls Tryz.prog 24 #[ntV N A c] w fun e w' => e = .returned (.bool (fewB N)) ∧ Below w.heap.size w w' := by
  obtain ⟨n, l⟩ := N
  simp only at hlen hN
  have hbl : Below w.heap.size w (w.alloc (.cells #[.int .i64 n, .slice A l.length c] 24)) := (Below.refl _ _).alloc (Nat.le_refl _) _
  have hN' := hN.below hbl
  have hf : fewB ⟨n, l⟩ = (decide (l.length ≤ 60) && decide (insN l ≤ 300)) := rfl
  obtain ⟨F, hF⟩ : ∃ F, fewB ⟨n, l⟩ = F := ⟨_, rfl⟩
  rw [hF] at hf ⊢
  have HF := Lib.hid hf
  clear hf hN hF
  go_enter Tryz.func24, Tryz.ntmps24
  go_wp2
  go_loop [3, 4] (fun s t => ∃ (k : Nat) (j : Int), k ≤ l.length ∧ t = .int .i64 k ∧ s = .int .i64 j ∧ Hid (l.length ≤ 60 → j = (insN (l.take k) : Int) ∧ j ≤ 140737488355328 * k)) (fun _ t => l.length - (intOf t).toNat)
  case atStart => exact ⟨0, 0, by omega, rfl, rfl, fun _ => ⟨rfl, by omega⟩⟩
  case round =>
    obtain ⟨k, j, hk, rfl, rfl, HJ⟩ := hrel
    by_cases hlt : k < l.length
    · obtain ⟨b, o, rfl, hbB, hcs⟩ := hN' (by omega)
      obtain ⟨hk1, hk2, ⟨A', c', hk3, hrd⟩, hr1, hr2, hr3, hr4⟩ := hcs k hlt
      have ht : l.take (k + 1) = l.take k ++ [l[k]] := List.take_succ_eq_append_getElem hlt
      have hsn := insN_snoc l[k] (l.take k)
      rw [← ht] at hsn
      obtain ⟨x, hx⟩ : ∃ x, l[k] = x := ⟨_, rfl⟩
      rw [hx] at hk3 hr4 hsn
      have HSN := Lib.hid hsn
      clear ht hx hsn hk1 hk2 hrd hr1 hr2 hr3 hcs hN'
      go_wp2
      go_round
      case rel =>
        refine ⟨k + 1, _, by omega, by go_num, rfl, fun h => ?_⟩
        obtain ⟨q1, q2⟩ := HJ.out h
        have hw : wrap64 (j + (x.ins.length : Int)) = j + (x.ins.length : Int) := by unfold wrap64; omega
        refine ⟨?_, ?_⟩
        · first | (rw [hw, HSN.out]; omega) | (rw [HSN.out]; omega)
        · first | (rw [hw]; omega) | omega
      case measure => simp [intOf]; omega
    · obtain rfl : k = l.length := by omega
      have hj := HJ.out
      rw [List.take_length] at hj
      have HJ2 := Lib.hid hj
      clear hlt hj hN'
      by_cases h60 : l.length ≤ 60
      · have h := (HJ2.out h60).1
        have HJ3 := Lib.hid h
        have hf2 := HF.out
        rw [decide_eq_true h60, Bool.true_and] at hf2
        have e : decide (insN l ≤ 300) = decide (j ≤ 300) := by rw [HJ3.out, Bool.eq_iff_iff]; simp; omega
        rw [e] at hf2
        have HF2 := Lib.hid hf2
        clear h hf2 e
        go_wp2
        go_ret
        exact ⟨by rw [HF2.out]; try rfl, hbl⟩
      · have hf2 := HF.out
        rw [decide_eq_false h60, Bool.false_and] at hf2
        have HF2 := Lib.hid hf2
        clear hf2
        go_wp2
        go_ret
        exact ⟨by rw [HF2.out]; try rfl, hbl⟩
theorem few_ins {N : Nt} (h : fewB N = true) : ∀ k (hk : k < N.l.length), N.l[k].ins.length ≤ 1000000 := by
  have h2 : insN N.l ≤ 300 := by unfold fewB at h; simp at h; exact h.2
  have : ∀ (l : List Nd) k (hk : k < l.length), l[k].ins.length ≤ insN l := fun l => by
    induction l with
    | nil => intro k hk; simp at hk
    | cons x xs ih =>
      intro k hk
      cases k with
      | zero => show x.ins.length ≤ x.ins.length + insN xs; omega
      | succ k =>
        have := ih k (by simpa using hk)
        have e : (x :: xs)[k + 1] = xs[k]'(by simpa using hk) := rfl
        rw [e]
        show _ ≤ x.ins.length + insN xs
        omega
  intro k hk
  exact Nat.le_trans (this N.l k hk) (by omega)
end Go.Proofs.YtgnobohfnhpkdaaGreatDoor
