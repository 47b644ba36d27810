import Derived.Test.YtgnobohfnhpkdaaGreatDoorRH
import Derived.Test.YtgnobohfnhpkdaaGreatDoorRE
import Derived.Test.YtgnobohfnhpkdaaGreatDoorFw
import Derived.Test.YtgnobohfnhpkdaaGreatDoorYl
set_option linter.unusedSimpArgs false
set_option linter.unusedVariables false
set_option maxRecDepth 100000
section
open Go Go.RowKit Cs
namespace Cs
theorem decN_n8 (x m : Nat) (h : n8 x ≤ m) (hm : 1 ≤ m) : decN x ≤ 8 * m := by
 refine decN_two x (8 * m) (8 * m) ?_ (zqn _) (by omega);have := (n8_le m x).1 h;rw [Nat.pow_mul];exact this
theorem dec_1 : dec 1 = ⟨#[49]⟩ := by decide +kernel
end Cs
namespace Go.Proofs.YtgnobohfnhpkdaaGreatDoor
theorem rbits_any (w : World) (c : Nat) (hc : 0 < c) (hd : n8 c ≤ 100000) :
  Calls Tryz.prog 33 #[.string (dec c)] w fun e w' => e = .returned (.int .i64 (nd 2 (c - 1) : Nat)) ∧ Below w.heap.size w w' := by
 have hs := fun W => rsub_any W c 1 (by have := decN_n8 c 100000 hd (by omega); omega) (by rw [show decN 1 = 1 by decide +kernel]; omega) hc;rw [dec_1] at hs;have hl := fun W => rlen_any W (c - 1) (by have := decN_n8 (c - 1) 100000 (Nat.le_trans (n8_mono (Nat.sub_le _ _)) hd) (by omega); omega);have HS := zqh hs;have HL := zqh hl;clear hs hl
 generalize nd 2 (c - 1) = m at *
 generalize dec (c - 1) = t at *
 generalize dec c = s at *
 go_enter Tryz.func33, Tryz.ntmps33
 go_wp2_with (first
  | (go_at_call 60; (with_reducible refine (HS.out _).mono ?_); rintro e w1 ⟨rfl, hb1⟩)
  | (go_at_call 61; (with_reducible refine (HL.out _).mono ?_); rintro e w2 ⟨rfl, hb2⟩))
 go_ret
 exact ⟨rfl, zqx hb1 hb2 hb1.size⟩
end Go.Proofs.YtgnobohfnhpkdaaGreatDoor
end
