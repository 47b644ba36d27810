import Derived.Test.YtgnobohfnhpkdaaGreatDoorO1
import Derived.Test.YtgnobohfnhpkdaaGreatDoorYc
import Derived.Test.YtgnobohfnhpkdaaGreatDoorZa
import Derived.SliceStrings
set_option linter.unusedSimpArgs false
set_option linter.unusedVariables false
set_option maxRecDepth 100000
section
open Go Go.RowKit Cs Go.ChangeShapes Go.WideShapes Go.ChangeAt Go.Joins Go.Deep
namespace Go.Proofs.YtgnobohfnhpkdaaGreatDoor
theorem open_bytes {H : Type} {enc : TypeId × Value → H} {W : World} {r : Reach} {b0 : Nat} {v : Value} {d : DataW H} {p : List MemPlace} (hv : Value.okWide Tryz.prog W r b0 25 v) (h : DataW.Trod enc Tryz.prog W 0 (fun _ => true) true 25 v d p) :
  ∃ (bs : List Nat) (A : Option Addr) (c : Nat), v = .slice A bs.length c ∧ bs.length ≤ c ∧ (A = none → bs.length = 0 ∧ c = 0) ∧ Rd W W.heap.size A bs.length (byF bs) ∧ ∀ i, bs.getD i 0 < 256 := by
 obtain ⟨a, len, cap, rfl⟩ := okWide_slice Tryz.underlying25 hv
 obtain ⟨fuel, hf⟩ := h
 have hf' : DataW.trod enc Tryz.prog W 0 (fun _ => true) true fuel 25 [.slice a len cap] = some (d, p) := hf
 rcases open_ints Tryz.underlying25 Tryz.underlying5 cells_u8 hf' with ⟨hcs, _⟩ | ⟨a', len', cap', zs, hcs, _, hl, hm, hz, hx, hcell, hwz⟩
 ·simp only [List.cons.injEq, and_true] at hcs
  exact ⟨[], none, 0, hcs, zqn _, fun _ => ⟨rfl, rfl⟩, fun h => absurd h (by simp), fun i => by simp⟩
 ·simp only [List.cons.injEq, and_true, Value.slice.injEq] at hcs
  obtain ⟨rfl, rfl, rfl⟩ := hcs
  simp only [if_true] at hz
  have hlen : ((zs.take len).map Int.toNat).length = len := by rw [List.length_map, List.length_take]; omega
  have hg : ∀ i, i < len → ((zs.take len).map Int.toNat).getD i 0 = (zs.getD i 0).toNat := fun i hi => by
   rw [List.getD_eq_getElem?_getD, List.getElem?_map, List.getElem?_take_of_lt hi, List.getElem?_eq_getElem (by omega), List.getD_eq_getElem?_getD, List.getElem?_eq_getElem (by omega)]
   rfl
  have hbd : ∀ i, i < len → 0 ≤ zs.getD i 0 ∧ zs.getD i 0 < 256 := fun i hi => by
   have hm : zs.getD i 0 ∈ zs := by
    rw [List.getD_eq_getElem?_getD, List.getElem?_eq_getElem (by omega)]
    exact List.getElem_mem (by omega)
   have := bounds_u8 (hwz _ hm)
   omega
  refine ⟨(zs.take len).map Int.toNat, some a', cap, by rw [hlen], by rw [hlen]; exact hl, (fun h => by cases h), fun hn => ?_, fun i => ?_⟩
  ·rw [hlen] at hn
   obtain ⟨b, off, rfl, hc⟩ := ints_at hcell (by omega)
   refine ⟨b, off, rfl, World.block_lt_of_cell? W _ (hc 0 (by omega)), fun i hi => ?_⟩
   rw [hlen] at hi
   rw [hc i (by omega)]
   unfold byF
   rw [hg i hi, Int.toNat_of_nonneg (hbd i hi).1]
  ·rcases Nat.lt_or_ge i len with hi | hi
   ·rw [hg i hi]
    have := hbd i hi
    omega
   ·rw [List.getD_eq_getElem?_getD, List.getElem?_eq_none (by rw [hlen]; exact hi)]
    decide
end Go.Proofs.YtgnobohfnhpkdaaGreatDoor
end
section
open Go Go.RowKit Cs Go.ChangeShapes Go.WideShapes Go.ChangeAt Go.Joins Go.Deep
namespace Go.Proofs.YtgnobohfnhpkdaaGreatDoor
theorem cells_str : Tryz.prog.cellsOf 9 = 1 := by kernel_rfl
theorem bulk_one {H : Type} (d : DataW H) : 1 ≤ Rows.uptoBulk d := by
 cases d with
 | lit l => cases l <;> simp [Rows.uptoBulk]
 | nil => simp [Rows.uptoBulk]
 | ptr d => simp [Rows.uptoBulk]
 | slice elems spare => simp [Rows.uptoBulk]
 | agg parts => simp [Rows.uptoBulk]
 | iface t d => simp [Rows.uptoBulk]
 | map entries => simp [Rows.uptoBulk]
 | held h => simp [Rows.uptoBulk]
theorem bulk_part {H : Type} {d : DataW H} {l : List (DataW H)} (h : d ∈ l) : Rows.uptoBulk d ≤ Rows.uptoBulkAll l := by
 induction l with
 | nil => cases h
 | cons x r ih =>
   simp only [Rows.uptoBulkAll]
   rcases List.mem_cons.1 h with e | e
   ·subst e; omega
   ·have := ih e; omega
theorem bulk_len {H : Type} (l : List (DataW H)) : l.length ≤ Rows.uptoBulkAll l := by
 induction l with
 | nil => simp [Rows.uptoBulkAll]
 | cons x r ih => have := bulk_one x; simp only [Rows.uptoBulkAll, List.length_cons]; omega
theorem bulk_small {H : Type} {l : List (DataW H)} (hk : Rows.uptoSmall H l = true) {d : DataW H} (h : d ∈ l) : Rows.uptoBulk d ≤ 1048576 :=
 Nat.le_trans (bulk_part h) (of_decide_eq_true hk)
theorem open_strs {H : Type} {enc : TypeId × Value → H} {W : World} {r : Reach} {b0 : Nat} {v : Value} {d : DataW H} {p : List MemPlace} (hv : Value.okWide Tryz.prog W r b0 43 v) (h : DataW.Trod enc Tryz.prog W 0 (fun _ => true) true 43 v d p) :
  ∃ (L : List ByteArray) (A : Option Addr) (c : Nat), v = .slice A L.length c ∧ (Rows.uptoBulk d ≤ 1048576 → L.length ≤ 1048576) ∧ Rd W W.heap.size A L.length (strF L) ∧ ∀ i, (L.getD i ⟨#[]⟩).size ≤ maxLen := by
 obtain ⟨a, len, cap, rfl⟩ := okWide_slice Tryz.underlying43 hv
 obtain ⟨fuel, hf⟩ := h
 have hf' : DataW.trod enc Tryz.prog W 0 (fun _ => true) true fuel 43 [.slice a len cap] = some (d, p) := hf
 rcases open_strings Tryz.underlying43 Tryz.underlying9 cells_str hf' with ⟨hcs, _⟩ | ⟨a', len', cap', ss, hcs, _, hl, hm, hz, hx, hcell, hsz⟩
 ·simp only [List.cons.injEq, and_true] at hcs
  exact ⟨[], none, 0, hcs, fun _ => by simp, fun h => absurd h (by simp), fun i => by simp [ByteArray.size]⟩
 ·simp only [List.cons.injEq, and_true, Value.slice.injEq] at hcs
  obtain ⟨rfl, rfl, rfl⟩ := hcs
  simp only [if_true] at hz
  have hlen : (ss.take len).length = len := by rw [List.length_take]; omega
  refine ⟨ss.take len, some a', cap, by rw [hlen], fun hb => ?_, fun hn => ?_, fun i => ?_⟩
  ·simp only [Prod.mk.injEq] at hx
   rw [hx.1] at hb
   simp only [Rows.uptoBulk] at hb
   have := bulk_len (strs (ss.take len) : List (DataW H))
   unfold strs at this hb
   rw [List.length_map] at this
   omega
  ·rw [hlen] at hn
   have c0 := hcell 0 (by omega)
   obtain ⟨b, off, spot⟩ := a'
   have hspot : spot = none := by simpa [Addr.add] using World.cell?_spot c0
   subst hspot
   have hadd : ∀ i, (⟨b, off, none⟩ : Addr).add i = ⟨b, off + i, none⟩ := fun i => by unfold Addr.add; split <;> simp_all
   refine ⟨b, off, rfl, by have := World.block_lt_of_cell? W _ c0; rw [hadd] at this; exact this, fun i hi => ?_⟩
   rw [hlen] at hi
   have := hcell i (by omega)
   rw [hadd] at this
   rw [this]
   unfold strF
   rw [List.getD_eq_getElem?_getD, List.getD_eq_getElem?_getD, List.getElem?_take_of_lt hi, List.getElem?_eq_getElem (by omega)]
   rfl
  ·rcases Nat.lt_or_ge i len with hi | hi
   ·rw [List.getD_eq_getElem?_getD, List.getElem?_take_of_lt hi, List.getElem?_eq_getElem (by omega)]
    exact hsz _ (List.getElem_mem (by omega))
   ·rw [List.getD_eq_getElem?_getD, List.getElem?_eq_none (by rw [hlen]; exact hi)]
    exact Nat.zero_le _
end Go.Proofs.YtgnobohfnhpkdaaGreatDoor
end
