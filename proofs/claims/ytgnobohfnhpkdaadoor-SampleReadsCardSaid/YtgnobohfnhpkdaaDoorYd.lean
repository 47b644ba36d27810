/- The walk of the closure in draw. -/
import Derived.Test.YtgnobohfnhpkdaaDoorYa
import Derived.Test.YtgnobohfnhpkdaaDoorDl
import Derived.WalkMore
import Derived.Deep.CutBlock
import Derived.Deep.CutRange
set_option linter.unusedSimpArgs false
set_option linter.unusedVariables false
open Go Go.RowKit Cs
namespace Cs
/-- The cells of bytes. -/
def byF (bs : List Nat) (i : Nat) : Value := .int .u8 (bs.getD i 0 : Nat)
/-- The number in a cell of int. -/
def intAt (w : World) (b : Nat) : Nat := match w.cell? ⟨b, 0, none⟩ with | some (.int _ n) => n.toNat | _ => 0
theorem intAt_row {w : World} {b n : Nat} {t : TypeId} (h : w.rowIs b t 1 fun _ => .int .i64 (n : Int)) : intAt w b = n := by
  unfold intAt
  rw [boxCell h]
  simp
theorem byte_and (y j : Nat) (hy : y < 256) : bits BinOp.and IntKind.u8 ((y : Int) / 2 ^ j) 1 = ((y / 2 ^ j % 2 : Nat) : Int) := by
  have h2 : ((y : Int) / 2 ^ j) = ((y / 2 ^ j : Nat) : Int) := by simp
  rw [h2]
  have hb : y / 2 ^ j < 256 := Nat.lt_of_le_of_lt (Nat.div_le_self _ _) hy
  generalize y / 2 ^ j = x at hb
  clear h2
  revert x
  decide +kernel
end Cs
namespace Go.Proofs.YtgnobohfnhpkdaaDoor
set_option maxRecDepth 100000 in
set_option maxHeartbeats 4000000 in
/-- The next bit. -/
theorem next_bit (w : World) (p u l cap used H : Nat) (bs : List Nat) (A : Option Addr) (hl : bs.length = l) (hl2 : l ≤ 1000000) (hp : w.cell? ⟨p, 0, none⟩ = some (.slice A l cap)) (hu : w.rowIs u 3 1 fun _ => .int .i64 used)
    (hbs : Rd w H A l (byF bs)) (hb8 : ∀ i, bs.getD i 0 < 256) (hlt : used < 8 * l) :
    Calls Tryd.prog 45 #[.pointer (some ⟨p, 0, none⟩), .pointer (some ⟨u, 0, none⟩)] w fun e w' => e = .returned (natV (bitAt bs used)) ∧ w'.rowIs u 3 1 (fun _ => .int .i64 ((used + 1 : Nat) : Int)) ∧ w.grownBy w' (some u) := by
  obtain ⟨b, o, rfl, _, hc⟩ := hbs (by omega)
  have c1 := hc (used / 8) (by omega)
  have hb := World.block_lt_of_cell? w _ c1
  simp only at hb
  unfold byF at c1
  have hv := hb8 (used / 8)
  have hbit : bitAt bs used = bs.getD (used / 8) 0 / 2 ^ (7 - used % 8) % 2 := rfl
  have hbl := bitAt_lt bs used
  generalize bitAt bs used = B at *
  generalize bs.getD (used / 8) 0 = y at *
  have hof := fun W => of_any W B (by omega)
  have HOF := Lib.hid hof
  have hul := hu.lt
  have hpl := World.block_lt_of_cell? w _ hp
  have u1 := boxCell hu
  have u2 := hu.frozen 0
  clear hc hbs hof
  go_enter Tryd.func45, Tryd.ntmps45
  go_wp2_with fail
  go_quiet (fail)
  have eB : bits BinOp.and IntKind.u8 ((y : Int) / 2 ^ (7 - used % 8)) 1 = (B : Int) := by rw [byte_and y _ hv, hbit]
  rw [eB]
  clear hbit eB c1 hv hb8
  have hw1 := boxSet (rowDrewN (hu.alloc (.cells #[.string ⟨#[]⟩] 42)) nq) (.int .i64 ((used : Int) + 1))
  have g1 : w.grownBy (((w.alloc (.cells #[.string ⟨#[]⟩] 42)).drewN nq).setCell ⟨u, 0, none⟩ (.int .i64 ((used : Int) + 1))) (some u) := only_setCell (only_drewN (only_alloc (World.grownBy.refl w _) _) nq) (.inl rfl) _
  have z1 := (rowDrewN (arrNew w #[.string ⟨#[]⟩] 42 _ 1 rfl rfl) nq).setOther (a := ⟨u, 0, none⟩) (by show w.heap.size ≠ u; omega) (.int .i64 ((used : Int) + 1))
  go_wp2_with (
    go_at_call 25
    (with_reducible refine (HOF.out _).mono ?_)
    rintro e w9 ⟨rfl, hb9⟩
    have h2 := rowBelow hw1 hb9
    have g2 := only_below g1 hb9
    have z2 := rowBelow z1 hb9
    have y2 := z2.cell (i := 0) (by omega)
    have y3 := z2.frozen 0)
  have h3 := h2.setOther (a := ⟨w.heap.size, 0, none⟩) (by show u ≠ w.heap.size; omega) (.string (natB B))
  have g3 := only_setCell g2 (p := ⟨w.heap.size, 0, none⟩) (.inr (Nat.le_refl _)) (.string (natB B))
  refine ret_nat (t := 42) (g := w.heap.size) rfl (natB B) rfl (boxSet (z2.congr fun i hi => (by obtain rfl : i = 0 := (by omega); rfl)) _) rfl ⟨rfl, h3.congr fun i hi => ?_, g3⟩
  simp
end Go.Proofs.YtgnobohfnhpkdaaDoor
