import Derived.Test.YtmhllppjcilllaaGreatDoorSumN
import Derived.Laws.EntriesVeiled
import Derived.Laws.ResultCell
import Derived.Deep.CutRange
set_option linter.unusedSimpArgs false
set_option linter.unusedVariables false
section
open Go Go.RowKit Cs
namespace Go.Proofs.YtmhllppjcilllaaGreatDoor
theorem ret_nat_slot {fn : Func} {R : Ending → World → Prop} {a : Act} {w : World} {p u : Tmp} (h : fn.results = #[.cell p 31, .tmp u]) {g : Nat} {t : TypeId} (V : Nat)
  (hp : a.tmps.getD p undef = .pointer (some ⟨g, 0, none⟩)) (hrow : w.rowIs g t 1 fun _ => .string (natB V)) (hdf : a.defers = []) (hR : R (.returned (.tuple #[natV V, a.tmps.getD u undef])) w) : bodyPost Tryz.prog fn R .ret a w := by
 refine bodyPost_ret ?_ hdf hR;rw [results_cell_tmp h, hp];have hl := run_loadVar_row (P := Tryz.prog) w g t 31 _ (0, 0) _ (rowArr hrow) Tryz.underlying31 rfl (by simpa using size_nat);simp [asAddr, Result.andThen, hl]
end Go.Proofs.YtmhllppjcilllaaGreatDoor
end
