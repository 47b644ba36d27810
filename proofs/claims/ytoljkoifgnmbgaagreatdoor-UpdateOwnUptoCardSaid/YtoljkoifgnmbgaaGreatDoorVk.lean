import Derived.Test.YtoljkoifgnmbgaaGreatDoorVj
set_option linter.unusedSimpArgs false
set_option linter.unusedVariables false
set_option maxRecDepth 100000
set_option maxHeartbeats 2000000
open Go Go.RowKit Cs
namespace Go.Proofs.YtoljkoifgnmbgaaGreatDoor
theorem new_err (w : World) (N : Nt) (A : Option Addr) (c ml mh cl ch : Nat) (Al Ah : Option Addr) (R : Int) (hR : R ≠ 0)
  (hck : ∀ W, Below w.heap.size w W → Calls Tryz.prog 40 #[ntV N A c, wtsV Al Ah ml mh cl ch] W fun e w' => e = .returned (.int .i64 R) ∧ Below W.heap.size W w') :
  Calls Tryz.prog 15 #[ntV N A c, wtsV Al Ah ml mh cl ch] w fun e w' => e = .returned (.tuple #[.pointer none, .int .i64 R]) ∧ Below w.heap.size w w' := by
 have HCK := zqh hck;have h1 : (R != 0) = true := bne_iff_ne.2 hR
 have h2 : (R == 0) = false := by simpa using hR
 have h3 : ¬ R = 0 := hR;have a3 := ((Below.refl w.heap.size w).alloc (zqn _) (.cells #[.int .i64 N.n, .slice A N.l.length c] 24)).alloc (by simp) (.cells #[.slice Al ml cl, .slice Ah mh ch] 30);clear hck hR
 go_enter Tryz.func15, Tryz.ntmps15
 go_wp2_with (go_at_call 40; (with_reducible refine (HCK.out _ a3).mono ?_); rintro e w9 ⟨rfl, hb9⟩)
 all_goals
  go_ret2
  exact ⟨rfl, zqx a3 hb9 a3.size⟩
end Go.Proofs.YtoljkoifgnmbgaaGreatDoor
