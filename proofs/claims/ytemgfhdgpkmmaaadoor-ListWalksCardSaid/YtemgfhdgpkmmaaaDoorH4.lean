/- What laws on walks need: walks that stay, bags beside a walk, Next by what it answers. -/
import Derived.Test.YtemgfhdgpkmmaaaDoorHa
import Derived.Test.YtemgfhdgpkmmaaaDoorBg
import Derived.Test.YtemgfhdgpkmmaaaDoorG2
set_option linter.unusedSimpArgs false
set_option linter.unusedVariables false
open Go Go.RowKit Cs
namespace Go.Proofs.YtemgfhdgpkmmaaaDoor
theorem WkLies.below {w w' : World} {N : Nt} {D g gl q : Nat} {A : Option Addr} {c : Nat} {s : Wk} {k : Int} (h : WkLies w N D g gl q A c s k) (hb : Below w.heap.size w w') : WkLies w' N D g gl q A c s k :=
  ⟨rowBelow h.row hb, h.net.below (hb.mono (Nat.le_of_lt h.row.lt)), h.ls.below hb, h.lo1, h.hi1⟩
theorem WkLies.drew {w : World} {N : Nt} {D g gl q : Nat} {A : Option Addr} {c : Nat} {s : Wk} {k : Int} (h : WkLies w N D g gl q A c s k) : WkLies w.drew N D g gl q A c s k := h.below (belowDrewN (Below.refl _ _) 1)
theorem WkLies.alloc {w : World} {N : Nt} {D g gl q : Nat} {A : Option Addr} {c : Nat} {s : Wk} {k : Int} (h : WkLies w N D g gl q A c s k) (o : Obj) : WkLies (w.alloc o) N D g gl q A c s k := h.below ((Below.refl _ _).alloc (Nat.le_refl _) _)
theorem WkLies.steps {w : World} {N : Nt} {D g gl q : Nat} {A : Option Addr} {c : Nat} {s : Wk} {k : Int} (h : WkLies w N D g gl q A c s k) : w.cell? ⟨g, 5, none⟩ = some (.int .i64 k) := h.row.cell (i := 5) (by decide)
theorem _root_.Cs.Bag.grown {w w0 wr w' : World} {D g : Nat} {R : List (Nat × TypeId × Nat × Array Value)} (h : Bag w w0 D R wr) (hg : wr.grownBy w' (some g)) (hD : D ≤ g) (hR : ∀ r ∈ R, r.1 ≠ g) : Bag w w0 D R w' :=
  ⟨fun r hr => (h.rows r hr).of_block (hg.block _ (h.rows r hr).lt (by intro e; injection e with e; exact hR r hr e)), h.base.grown hg h.le (fun k e => by cases e; exact hD), h.bl.grown hg (Nat.le_trans h.wD h.le) (fun k e => by cases e; exact Nat.le_trans h.wD hD), Nat.le_trans h.le hg.size, h.wD⟩
/-- Next, by what the walk answers next. -/
theorem next_at (w : World) (N : Nt) (D g gl q : Nat) (A : Option Addr) (c : Nat) (s s' : Wk) (p : Pt) (k : Int) (h : WkLies w N D g gl q A c s k) (hv : vld N = true) (hd : dcmp N = true) (hT : Tab w) (hg : 1 < g) (hs : IsSet s.last) (hp : s.next N = p) (hs' : s.step N = s') :
    Calls Tryd.prog 31 #[.pointer (some ⟨g, 0, none⟩)] w fun e w' => e = .returned (.tuple #[setV p.set, .bool p.ok]) ∧ WkLies w' N D g gl q A c s' (stepN N s k) ∧ w.grownBy w' (some g) := by
  have h1 := next_any w N D g gl q A c s k h hv hd hT hg hs
  unfold NextP at h1
  rw [hp, hs'] at h1
  exact h1
theorem eq_same (a : Nat) (W : World) : (Op.equalIn 10000 27 (setV a) (setV a)).run Tryd.prog W = .ok true W := by
  rw [eq_set]; simp
theorem asg_isSet {k n : Nat} (hn : n ≤ 10) : IsSet (asg k n) := by
  have := asg_lt k n
  have h2 : (2 : Nat) ^ n ≤ 2 ^ 10 := Nat.pow_le_pow_right (by decide) hn
  unfold IsSet
  omega
end Go.Proofs.YtemgfhdgpkmmaaaDoor
