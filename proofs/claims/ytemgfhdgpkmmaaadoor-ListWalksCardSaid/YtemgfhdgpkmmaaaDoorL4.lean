/- The walk of slices.Max. -/
import Derived.Test.YtemgfhdgpkmmaaaDoorL3
set_option linter.unusedSimpArgs false
set_option linter.unusedVariables false
open Go Go.RowKit Cs
namespace Go.Proofs.YtemgfhdgpkmmaaaDoor
theorem maxL_take (xs : List Int) (k : Nat) (h0 : 1 ≤ k) (h : k < xs.length) : maxL (xs.take (k + 1)) = max (maxL (xs.take k)) xs[k] := by
  rw [List.take_succ_eq_append_getElem h]
  obtain ⟨y, ys, hy⟩ : ∃ y ys, xs.take k = y :: ys := by
    cases hc : xs.take k with
    | nil =>
      have := congrArg List.length hc
      rw [List.length_take, List.length_nil] at this; omega
    | cons y ys => exact ⟨y, ys, rfl⟩
  rw [hy]
  show (ys ++ [xs[k]]).foldl max y = max (ys.foldl max y) xs[k]
  rw [List.foldl_append]; rfl
set_option maxRecDepth 100000 in
set_option maxHeartbeats 1000000 in
theorem max_list (w : World) (A : Option Addr) (c : Nat) (xs : List Int) (h0 : 1 ≤ xs.length) (hlen : xs.length ≤ 140737488355328) (hi : Rd w w.heap.size A xs.length (intF xs)) :
    Calls Tryd.prog 72 #[.slice A xs.length c] w fun e w' => e = .returned (.int .i64 (maxL xs)) ∧ w = w' := by
  obtain ⟨b, o, rfl, hbB, hcs⟩ := hi (by omega)
  have hc0 := hcs 0 (by omega)
  have hi0 : intF xs 0 = .int .i64 (maxL (xs.take 1)) := by
    cases xs with
    | nil => simp at h0
    | cons x xs => rfl
  rw [hi0, Nat.add_zero] at hc0
  have HCS := Lib.hid hcs
  have hn1 : ¬ ((xs.length : Int) < 1) := by omega
  have hn2 : (0 : Int) < (xs.length : Int) := by omega
  clear hcs hi hi0
  go_enter Tryd.func72, Tryd.ntmps72
  go_wp2
  go_loopw [3, 4] (fun m t wr => wr = w ∧ ∃ k : Nat, 1 ≤ k ∧ k ≤ xs.length ∧ t = .int .i64 k ∧ m = .int .i64 (maxL (xs.take k))) (fun m t _ => xs.length - (intOf t).toNat)
  case atStart => exact ⟨rfl, 1, by omega, by omega, rfl, rfl⟩
  case round =>
    obtain ⟨rfl, k, hk1, hk, rfl, rfl⟩ := hrel
    by_cases hlt : k < xs.length
    · have hc := HCS.out k hlt
      have hii : intF xs k = .int .i64 xs[k] := by unfold intF; rw [List.getD_eq_getElem?_getD, List.getElem?_eq_getElem hlt]; rfl
      rw [hii] at hc
      have HT := Lib.hid (maxL_take xs k hk1 hlt)
      have k1 : (k : Int) < (xs.length : Int) := by omega
      obtain ⟨y, hy⟩ : ∃ y, xs[k] = y := ⟨_, rfl⟩
      rw [hy] at hc HT
      obtain ⟨z, hz⟩ : ∃ z, maxL (xs.take k) = z := ⟨_, rfl⟩
      rw [hz] at HT ⊢
      clear hii hy hz
      go_wp2
      all_goals
        go_roundw
        case rel => exact ⟨trivial, k + 1, by omega, by omega, by go_num, by first | (rw [HT.out]; done) | (rw [HT.out]; go_num)⟩
        case measure => simp [intOf]; omega
    · obtain rfl : k = xs.length := by omega
      rw [List.take_length]
      go_wp2
      go_ret
      exact ⟨rfl, rfl⟩
theorem lerr_zero {N : Nt} {a : Nat} (h : lerr N a = 0) : vld N = true ∧ decide (minus a (allTo N.n) = 0) = true ∧ dcmp N = true := by
  unfold lerr at h
  cases h1 : vld N <;> cases h2 : decide (minus a (allTo N.n) = 0) <;> cases h3 : dcmp N <;> simp [h1, h2, h3] at h ⊢
theorem newLister_err (w : World) (N : Nt) (A : Option Addr) (c a : Nat) (hlen : N.l.length ≤ 140737488355328) (hN : NtAt w w.heap.size A N.l) (ha : IsSet a) (h : lerr N a ≠ 0) :
    Calls Tryd.prog 37 #[ntV N A c, setV a] w fun e w' => e = .returned (.tuple #[.pointer none, .int .i64 (lerr N a)]) ∧ Below w.heap.size w w' := by
  cases h1 : vld N
  · rw [show lerr N a = 1 by unfold lerr; rw [h1]; rfl]
    exact newLister_inv w N A c a hlen hN h1
  · cases h2 : decide (minus a (allTo N.n) = 0)
    · rw [show lerr N a = 1 by unfold lerr; rw [h1, h2]; rfl]
      exact newLister_out w N A c a hlen hN ha h1 h2
    · cases h3 : dcmp N
      · rw [show lerr N a = 210 by unfold lerr; rw [h1, h2, h3]; rfl]
        exact newLister_gap w N A c a hlen hN ha h1 h2 h3
      · exact absurd (show lerr N a = 0 by unfold lerr; rw [h1, h2, h3]; rfl) h
theorem newLister_fine (w : World) (N : Nt) (A : Option Addr) (c a : Nat) (hlen : N.l.length ≤ 140737488355328) (hN : NtAt w w.heap.size A N.l) (ha : IsSet a) (h : lerr N a = 0) :
    Calls Tryd.prog 37 #[ntV N A c, setV a] w fun e w' => ∃ g q, e = .returned (.tuple #[.pointer (some ⟨g, 0, none⟩), .int .i64 0]) ∧ w.heap.size ≤ g ∧ w.heap.size ≤ q ∧ LsAt w' N A c g q ∧ Below w.heap.size w w' :=
  newLister_ok w N A c a hlen hN ha (lerr_zero h).1 (lerr_zero h).2.1 (lerr_zero h).2.2
end Go.Proofs.YtemgfhdgpkmmaaaDoor
