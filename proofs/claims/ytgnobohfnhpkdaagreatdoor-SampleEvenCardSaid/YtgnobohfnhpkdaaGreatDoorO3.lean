import Derived.Test.YtgnobohfnhpkdaaGreatDoorO1
import Derived.Test.YtgnobohfnhpkdaaGreatDoorYc
import Derived.Test.YtgnobohfnhpkdaaGreatDoorZa
import Derived.SliceStrings
set_option linter.unusedSimpArgs false
set_option linter.unusedVariables false
set_option maxRecDepth 100000
section
open Go Go.RowKit Cs Go.ChangeShapes Go.WideShapes Go.ChangeAt Go.Joins Go.Deep
namespace Go.Proofs.YtgnobohfnhpkdaaGreatDoor
theorem open_bytes {H : Type} {enc : TypeId × Value → H} {W : World} {r : Reach} {b0 : Nat} {v : Value} {d : DataW H} {p : List MemPlace} (hv : Value.okWide Tryz.prog W r b0 25 v) (h : DataW.Trod enc Tryz.prog W 0 (fun _ => true) true 25 v d p) :
  ∃ (bs : List Nat) (A : Option Addr) (c : Nat), v = .slice A bs.length c ∧ bs.length ≤ c ∧ (A = none → bs.length = 0 ∧ c = 0) ∧ Rd W W.heap.size A bs.length (byF bs) ∧ ∀ i, bs.getD i 0 < 256 := by
 obtain ⟨a, len, cap, rfl⟩ := okWide_slice Tryz.underlying25 hv;obtain ⟨fuel, hf⟩ := h;have hf' : DataW.trod enc Tryz.prog W 0 (fun _ => true) true fuel 25 [.slice a len cap] = some (d, p) := hf;rcases open_ints Tryz.underlying25 Tryz.underlying5 cells_u8 hf' with ⟨hcs, _⟩ | ⟨a', len', cap', zs, hcs, _, hl, hm, hz, hx, hcell, hwz⟩
 ·simp only [List.cons.injEq, and_true] at hcs;exact ⟨[], none, 0, hcs, zqn _, fun _ => ⟨rfl, rfl⟩, fun h => absurd h (by simp), fun i => by simp⟩
 ·simp only [List.cons.injEq, and_true, Value.slice.injEq] at hcs;obtain ⟨rfl, rfl, rfl⟩ := hcs;simp only [if_true] at hz
  have hlen : ((zs.take len).map Int.toNat).length = len := by rw [List.length_map, List.length_take]; omega
  have hg : ∀ i, i < len → ((zs.take len).map Int.toNat).getD i 0 = (zs.getD i 0).toNat := fun i hi => by
   rw [List.getD_eq_getElem?_getD, List.getElem?_map, List.getElem?_take_of_lt hi, List.getElem?_eq_getElem (by omega), List.getD_eq_getElem?_getD, List.getElem?_eq_getElem (by omega)]
   rfl
  have hbd : ∀ i, i < len → 0 ≤ zs.getD i 0 ∧ zs.getD i 0 < 256 := fun i hi => by
   have hm : zs.getD i 0 ∈ zs := by
    rw [List.getD_eq_getElem?_getD, List.getElem?_eq_getElem (by omega)];exact List.getElem_mem (by omega)
   have := bounds_u8 (hwz _ hm);omega
  refine ⟨(zs.take len).map Int.toNat, some a', cap, by rw [hlen], by rw [hlen]; exact hl, (fun h => by cases h), fun hn => ?_, fun i => ?_⟩
  ·rw [hlen] at hn;obtain ⟨b, off, rfl, hc⟩ := ints_at hcell (by omega);refine ⟨b, off, rfl, World.block_lt_of_cell? W _ (hc 0 (by omega)), fun i hi => ?_⟩;rw [hlen] at hi;rw [hc i (by omega)];unfold byF;rw [hg i hi, Int.toNat_of_nonneg (hbd i hi).1]
  ·rcases Nat.lt_or_ge i len with hi | hi
   ·rw [hg i hi];have := hbd i hi;omega
   ·rw [List.getD_eq_getElem?_getD, List.getElem?_eq_none (by rw [hlen]; exact hi)];decide
end Go.Proofs.YtgnobohfnhpkdaaGreatDoor
end
