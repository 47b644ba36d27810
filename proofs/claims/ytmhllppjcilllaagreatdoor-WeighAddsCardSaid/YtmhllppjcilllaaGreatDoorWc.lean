import Derived.Test.YtmhllppjcilllaaGreatDoorC1
import Derived.Test.YtmhllppjcilllaaGreatDoorBy
import Derived.Test.YtmhllppjcilllaaGreatDoorZa
set_option linter.unusedSimpArgs false
set_option linter.unusedVariables false
section
end
section
open Go Go.RowKit Cs
namespace Cs
section
variable {N : Nt} {n : Nat} {lo hi : List Pr}
theorem ptext_lp {p : Pr} (h : Lp p) : Go.Proofs.YtmhllppjcilllaaGreatDoor.ptext p.1 p.2 = qtext (qp p) := by
 obtain ⟨h1, h2⟩ := h;unfold qp;rcases h2 with h2 | ⟨e1, e2⟩
 ·rw [← ptext_q, ← h1, ← h2]
 ·rw [e1, e2];decide +kernel
theorem lp_text {p : Pr} {m : Nat} (h : Lp p) (hq : qp p = (m : Rat)) : Go.Proofs.YtmhllppjcilllaaGreatDoor.ptext p.1 p.2 = dec m := by rw [ptext_lp h, hq, Go.Proofs.YtmhllppjcilllaaGreatDoor.qtext_nat]
end
end Cs
end
