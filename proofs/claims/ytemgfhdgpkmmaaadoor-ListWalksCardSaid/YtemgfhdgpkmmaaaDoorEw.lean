/- The walk of node.Eval, for every net. The small functions of package list. -/
import Derived.Test.YtemgfhdgpkmmaaaDoorEv
import Derived.Test.YtemgfhdgpkmmaaaDoorS1
set_option linter.unusedSimpArgs false
set_option linter.unusedVariables false
set_option maxRecDepth 100000
open Go Go.RowKit Cs
namespace Go.Proofs.YtemgfhdgpkmmaaaDoor
theorem eval_any (w : World) (N : Nt) (A : Option Addr) (c s : Nat) (hlen : N.l.length ≤ 140737488355328) (hN : NtAt w w.heap.size A N.l) :
    Calls Tryd.prog 19 #[ntV N A c, setV s] w fun e w' => e = .returned (.bool (vld N && evB N s)) ∧ Below w.heap.size w w' := by
  by_cases hv : vld N = true
  · rw [hv, Bool.true_and]; exact eval_ok w N A c s hN hv
  · have hv : vld N = false := by simpa using hv
    rw [hv, Bool.false_and]
    have hck := fun W h => nodeCheck_any W N A c hlen h
    rw [show chk N = 1 by unfold chk; rw [hv]; rfl] at hck
    have HCK := Lib.hid hck
    have hbl : Below w.heap.size w ((w.alloc (.cells #[.int .i64 N.n, .slice A N.l.length c] 24)).alloc (.cells #[.int .u64 (lo s : Int), .int .u64 (hi s : Int)] 27)) := ((Below.refl _ _).alloc (Nat.le_refl _) _).alloc (by simp) _
    clear hck
    go_enter Tryd.func19, Tryd.ntmps19
    go_wp2_with fail
    refine (HCK.out _ ((hN.below hbl).more hbl.size)).mono ?_
    rintro e w5 ⟨rfl, hb5⟩
    replace hbl := Cs.Below.trans' hbl hb5 hbl.size
    go_wp2
    go_ret
    exact ⟨rfl, hbl⟩
end Go.Proofs.YtemgfhdgpkmmaaaDoor
