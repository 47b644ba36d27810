import Derived.Test.YtmhllppjcilllaaGreatDoorB1
set_option linter.unusedSimpArgs false
set_option linter.unusedVariables false
open Go Go.RowKit Cs
namespace Cs
def arrF (a : Array Value) (i : Nat) : Value := a.getD i undef
theorem arrNew (w : World) (a : Array Value) (t : TypeId) (g n : Nat) (hg : w.heap.size = g) (hn : a.size = n) : (w.alloc (.cells a t)).rowIs g t n (arrF a) := by
 subst hg; subst hn
 exact World.rowIs_alloc w a t (arrF a) fun i hi => by unfold arrF; rw [Array.getD_eq_getD_getElem?, Array.getElem?_eq_getElem hi]; rfl
structure Bag (w w0 : World) (D : Nat) (R : List (Nat × TypeId × Nat × Array Value)) (wr : World) : Prop where
 rows : ∀ r ∈ R, wr.rowIs r.1 r.2.1 r.2.2.1 (arrF r.2.2.2)
 base : Below D w0 wr
 bl : Below w.heap.size w wr
 le : D ≤ wr.heap.size
 wD : w.heap.size ≤ D
section
variable {w w0 wr w' : World} {D : Nat} {R : List (Nat × TypeId × Nat × Array Value)} {r : Nat × TypeId × Nat × Array Value}
theorem Bag.below (h : Bag w w0 D R wr) (hb : Below wr.heap.size wr w') : Bag w w0 D R w' := ⟨fun r hr => rowBelow (h.rows r hr) hb, h.base.trans (hb.mono h.le), zqx h.bl hb h.bl.size, Nat.le_trans h.le hb.size, h.wD⟩
theorem Bag.drew (h : Bag w w0 D R wr) : Bag w w0 D R wr.drew := h.below (belowDrewN (zqr _ _) 1)
theorem Bag.alloc (h : Bag w w0 D R wr) (o : Obj) : Bag w w0 D R (wr.alloc o) := h.below ((zqr _ _).alloc (zqn _) _)
theorem Bag.cons (h : Bag w w0 D R wr) {b n : Nat} {t : TypeId} {a : Array Value} (hr : wr.rowIs b t n (arrF a)) : Bag w w0 D ((b, t, n, a) :: R) wr := by
 refine ⟨fun r h1 => ?_, h.base, h.bl, h.le, h.wD⟩;rcases List.mem_cons.1 h1 with rfl | h1
 ·exact hr
 ·exact h.rows r h1
theorem Bag.new (h : Bag w w0 D R wr) (a : Array Value) (t : TypeId) (g n : Nat) (hg : wr.heap.size = g) (hn : a.size = n) : Bag w w0 D ((g, t, n, a) :: R) (wr.alloc (.cells a t)) := (h.alloc _).cons (arrNew wr a t g n hg hn)
theorem Bag.row0 (h : Bag w w0 D (r :: R) wr) : wr.rowIs r.1 r.2.1 r.2.2.1 (arrF r.2.2.2) := h.rows r (List.mem_cons_self ..)
theorem Bag.is0 {b n : Nat} {t : TypeId} {a : Array Value} (h : Bag w w0 D ((b, t, n, a) :: R) wr) (i : Nat) (hi : i < n) (v : Value) (hv : arrF a i = v) : wr.cell? ⟨b, i, none⟩ = some v := (h.row0.cell hi).trans (by rw [hv])
theorem Bag.is (h : Bag w w0 D R wr) (b n : Nat) (t : TypeId) (a : Array Value) (hm : (b, t, n, a) ∈ R) (i : Nat) (hi : i < n) (v : Value) (hv : arrF a i = v) : wr.cell? ⟨b, i, none⟩ = some v := ((h.rows _ hm).cell hi).trans (by rw [← hv])
theorem Bag.fresh (h : Bag w w0 D R wr) : D ≤ wr.heap.size ∧ ∀ r ∈ R, r.1 ≠ wr.heap.size := ⟨h.le, fun r hr => Nat.ne_of_lt (h.rows r hr).lt⟩
theorem pairRow {g : Nat} {t : TypeId} {f : Nat → Value} (h : wr.rowIs g t 2 f) (u v : Value) : ((wr.setCell ⟨g, 0, none⟩ u).setCell ⟨g, 1, none⟩ v).rowIs g t 2 (arrF #[u, v]) :=
 ((h.set 0 u).set 1 v).congr fun i hi => by
  have : i = 0 ∨ i = 1 := by omega
  rcases this with rfl | rfl <;> rfl
theorem oneRow {g : Nat} {t : TypeId} {f : Nat → Value} (h : wr.rowIs g t 1 f) (u : Value) : (wr.setCell ⟨g, 0, none⟩ u).rowIs g t 1 (arrF #[u]) :=
 (h.set 0 u).congr fun i hi => by
  obtain rfl : i = 0 := by omega
  rfl
theorem Bag.other (h : Bag w w0 D R wr) {X : Nat} (hX : D ≤ X) (hR : ∀ r ∈ R, r.1 ≠ X) (i : Nat) (v : Value) : Bag w w0 D R (wr.setCell ⟨X, i, none⟩ v) :=
 ⟨fun r hr => (h.rows r hr).setOther (hR r hr) _, h.base.setCell hX _, h.bl.setCell (Nat.le_trans h.wD hX) _, by rw [size_setCell]; exact h.le, h.wD⟩
end
theorem Bag.zero (w : World) : Bag w w w.heap.size [] w := ⟨(fun _ h => by cases h), zqr _ _, zqr _ _, zqn _, zqn _⟩
theorem putFar {w : World} {g b i : Nat} {u v : Value} {x : Option Value} (hne : g ≠ b) (h : w.cell? ⟨b, i, none⟩ = x) : ((w.setCell ⟨g, 0, none⟩ u).setCell ⟨g, 1, none⟩ v).cell? ⟨b, i, none⟩ = x :=
 (World.cell?_setCell_far _ _ _ _ hne).trans ((World.cell?_setCell_far _ _ _ _ hne).trans h)
theorem rowNe {w : World} {b b' n n' : Nat} {t t' : TypeId} {f f' : Nat → Value} (h : w.rowIs b t n f) (h' : w.rowIs b' t' n' f') (hn : n ≠ n') : b ≠ b' := by
 rintro rfl;have e := (rowArr h).symm.trans (rowArr h');injection e with e;injection e with e1 e2;have := congrArg Array.size e1;simp at this;exact hn this
end Cs
