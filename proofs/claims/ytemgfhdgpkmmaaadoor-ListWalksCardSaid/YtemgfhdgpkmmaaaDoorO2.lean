/- Openers of parameters: small numbers, sets by value. -/
import Derived.Test.YtemgfhdgpkmmaaaDoorO1
import Derived.Test.YtemgfhdgpkmmaaaDoorV1
set_option linter.unusedSimpArgs false
set_option linter.unusedVariables false
open Go Go.RowKit Cs Go.ChangeShapes Go.WideShapes Go.ChangeAt Go.Joins Go.Deep
namespace Go.Proofs.YtemgfhdgpkmmaaaDoor
theorem cells_setA : Tryd.prog.cellsOf 27 = 2 := by kernel_rfl
theorem cells_u64A : Tryd.prog.cellsOf 25 = 1 := by kernel_rfl
set_option maxRecDepth 100000 in
theorem open_u8 {H : Type} {enc : TypeId × Value → H} {W : World} {r : Reach} {b0 : Nat} {v : Value} {d : DataW H} {p : List MemPlace} (hv : Value.okWide Tryd.prog W r b0 5 v) (h : DataW.Trod enc Tryd.prog W 0 (fun _ => true) true 5 v d p) :
    ∃ n : Nat, v = .int .u8 (n : Int) ∧ n < 256 := by
  obtain ⟨z, rfl⟩ := okWide_int Tryd.underlying5 hv
  obtain ⟨fuel, hf⟩ := h
  obtain ⟨z', hz, _, hw⟩ := DataW.trod_int Tryd.underlying5 hf
  simp only [Value.cells, List.cons.injEq, Value.int.injEq, and_true, true_and] at hz
  subst hz
  have hb := bounds_u8 hw
  refine ⟨z.toNat, ?_, by omega⟩
  rw [Int.toNat_of_nonneg hb.1]
set_option maxRecDepth 100000 in
theorem open_setA {H : Type} {enc : TypeId × Value → H} {W : World} {r : Reach} {b0 : Nat} {v : Value} {d : DataW H} {p : List MemPlace} (hv : Value.okWide Tryd.prog W r b0 27 v) (h : DataW.Trod enc Tryd.prog W 0 (fun _ => true) true 27 v d p) :
    ∃ a : Nat, v = setV a ∧ IsSet a := by
  simp only [Value.okWide, Tryd.underlying27] at hv
  obtain ⟨cs, rfl, hsz, _⟩ := hv
  obtain ⟨c0, c1, rfl⟩ := array2 (hsz.trans cells_setA)
  obtain ⟨fuel, hf⟩ := h
  obtain ⟨xs, m, _, hx, _, hl, hel⟩ := DataW.trod_array Tryd.underlying27 hf
  have h0 := hel 0 (by omega)
  have h1 := hel 1 (by omega)
  clear hel
  match xs, hl with
  | [y0, y1], _ =>
    simp [Value.cells, cells_u64A] at h0 h1
    obtain ⟨z0, e0, _, w0⟩ := DataW.trod_int Tryd.underlying25 h0
    obtain ⟨z1, e1, _, w1⟩ := DataW.trod_int Tryd.underlying25 h1
    simp at e0 e1
    subst e0 e1
    have b0 := bounds_u64 w0
    have b1 := bounds_u64 w1
    refine ⟨z0.toNat + z1.toNat * 18446744073709551616, ?_, by unfold IsSet; omega⟩
    have l0 : (lo (z0.toNat + z1.toNat * 18446744073709551616) : Int) = z0 := by unfold lo; omega
    have l1 : (hi (z0.toNat + z1.toNat * 18446744073709551616) : Int) = z1 := by unfold hi; omega
    unfold setV
    rw [l0, l1]
set_option maxRecDepth 100000 in
theorem open_u16 {H : Type} {enc : TypeId × Value → H} {W : World} {r : Reach} {b0 : Nat} {v : Value} {d : DataW H} {p : List MemPlace} (hv : Value.okWide Tryd.prog W r b0 34 v) (h : DataW.Trod enc Tryd.prog W 0 (fun _ => true) true 34 v d p) :
    ∃ n : Nat, v = .int .u16 (n : Int) ∧ n < 65536 := by
  obtain ⟨z, rfl⟩ := okWide_int Tryd.underlying34 hv
  obtain ⟨fuel, hf⟩ := h
  obtain ⟨z', hz, _, hw⟩ := DataW.trod_int Tryd.underlying34 hf
  simp only [Value.cells, List.cons.injEq, Value.int.injEq, and_true, true_and] at hz
  subst hz
  have hb := bounds_u16 hw
  refine ⟨z.toNat, ?_, by omega⟩
  rw [Int.toNat_of_nonneg hb.1]
end Go.Proofs.YtemgfhdgpkmmaaaDoor
