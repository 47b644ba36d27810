import Derived.Test.YtmhllppjcilllaaGreatDoorC1
import Derived.Test.YtmhllppjcilllaaGreatDoorBy
import Derived.Test.YtmhllppjcilllaaGreatDoorZa
import Derived.Test.YtmhllppjcilllaaGreatDoorAw
import Derived.Test.YtmhllppjcilllaaGreatDoorLy
set_option linter.unusedSimpArgs false
set_option linter.unusedVariables false
section
end
section
open Go Go.RowKit Cs
namespace Cs
section
variable {N : Nt} {n : Nat} {lo hi : List Pr}
theorem ptext_lp {p : Pr} (h : Lp p) : Go.Proofs.YtmhllppjcilllaaGreatDoor.ptext p.1 p.2 = qtext (qp p) := by
 obtain ⟨h1, h2⟩ := h;unfold qp;rcases h2 with h2 | ⟨e1, e2⟩
 ·rw [← ptext_q, ← h1, ← h2]
 ·rw [e1, e2];decide +kernel
end
end Cs
end
section
open Go Go.RowKit Cs
namespace Cs
open Go.Proofs.YtmhllppjcilllaaGreatDoor
theorem prt_small (lw : Nat) (F : Nat → Nat) (v j : Nat) : prt lw F v j ≤ 6 := by
 unfold prt;split
 ·omega
 ·split <;> omega
theorem qq_parts (n d m : Nat) (h1 : n ≤ m) (h2 : d ≤ m) (hm : 1 ≤ m) : (pq (qq n d)).1 ≤ m ∧ (pq (qq n d)).2 ≤ m := by
 constructor
 ·show qn (qq n d) ≤ m;rw [qn_qq];exact Nat.le_trans (Nat.div_le_self _ _) h1
 ·show (qq n d).den ≤ m;rw [den_qq];refine Nat.le_trans (Nat.div_le_self _ _) ?_
  unfold qd; split <;> omega
theorem awl_parts (lw : Nat) (F : Nat → Nat) (v : Nat) : (awl lw F v).1 ≤ 6 ∧ (awl lw F v).2 ≤ 6 := qq_parts _ _ 6 (prt_small _ _ _ _) (prt_small _ _ _ _) (by decide)
theorem awh_parts (lw : Nat) (F : Nat → Nat) (v : Nat) : (awh lw F v).1 ≤ 6 ∧ (awh lw F v).2 ≤ 6 := qq_parts _ _ 6 (prt_small _ _ _ _) (prt_small _ _ _ _) (by decide)
theorem map_getD (f : Nat → Pr) (m k : Nat) : ((List.range m).map f).getD k (0, 0) = if k < m then f k else (0, 0) := rng_get f (0, 0) m k
theorem aw_ok (lw : Nat) (F : Nat → Nat) (v : Nat) : Lp (awl lw F v) ∧ (awl lw F v).1 ≤ 6 ∧ (awl lw F v).2 ≤ 6 := ⟨Lp.pq (qq_nonneg _ _), awl_parts lw F v⟩
theorem aw_okh (lw : Nat) (F : Nat → Nat) (v : Nat) : Lp (awh lw F v) ∧ (awh lw F v).1 ≤ 6 ∧ (awh lw F v).2 ≤ 6 := ⟨Lp.pq (qq_nonneg _ _), awh_parts lw F v⟩
theorem wfit_bits {N : Nt} {n : Nat} {lo hi : List Pr} (hb : ¬ 16384 < sumB lo n + sumB hi n) : wfit N n lo hi = cchk N := by
 unfold wfit;rw [if_neg hb];split
 ·rename_i h; exact h.symm
 ·rfl
theorem cchk_dcmp {N : Nt} (hd : dcmp N = true) (hv : vld N = true) : cchk N = 0 ∨ cchk N = 2 := by
 unfold cchk;rw [hv, hd];cases shortB N
 ·exact Or.inr rfl
 ·exact Or.inl rfl
section
variable {N : Nt} {n : Nat} {lo hi : List Pr}
theorem cross_eq {n d n' d' : Nat} (h : qq n d = qq n' d') : n * qd d' = n' * qd d :=
 Nat.le_antisymm (Nat.le_of_not_lt fun h1 => absurd ((qq_lt_iff n' d' n d).2 h1) (by rw [h]; exact Rat.lt_irrefl)) (Nat.le_of_not_lt fun h1 => absurd ((qq_lt_iff n d n' d').2 h1) (by rw [h]; exact Rat.lt_irrefl))
theorem Sp.canon {p : Pr} (h : Lp p) (hs : Sp p) : Sp (pq (qp p)) := by
 refine ⟨?_, ?_⟩
 ·show n8 (qn (qq p.1 p.2)) ≤ _
  rw [← h.1]; exact hs.1
 ·show n8 (qq p.1 p.2).den ≤ _;rcases h.2 with e | ⟨e1, e2⟩
  ·rw [← e]; exact hs.2
  ·rw [e1, e2, show qq 0 0 = 0 from rfl]; exact Nat.le_trans (n8_64 (by decide)) (by decide)
end
end Cs
end
