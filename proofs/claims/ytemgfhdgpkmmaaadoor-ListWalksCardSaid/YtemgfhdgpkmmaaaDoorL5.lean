/- Rows of turns that grow: for the walk of turns. -/
import Derived.Test.YtemgfhdgpkmmaaaDoorL4
set_option linter.unusedSimpArgs false
set_option linter.unusedVariables false
open Go Go.RowKit Cs
namespace Go.Proofs.YtemgfhdgpkmmaaaDoor
theorem getD_snocT (L : List Tn) (T : Tn) (i : Nat) : (L ++ [T]).getD i ⟨0, 0⟩ = if i = L.length then T else L.getD i ⟨0, 0⟩ := by
  rw [List.getD_eq_getElem?_getD, List.getElem?_append]
  by_cases h : i < L.length
  · rw [if_pos h, if_neg (by omega), ← List.getD_eq_getElem?_getD]
  · rw [if_neg h]
    by_cases h2 : i = L.length
    · rw [if_pos h2, h2, Nat.sub_self]; rfl
    · rw [if_neg h2, List.getD_eq_getElem?_getD, List.getElem?_eq_none (by simp; omega), List.getElem?_eq_none (by omega)]
section
variable {w : World} {g n : Nat} {t : TypeId} {L : List Tn} {T : Tn}
theorem tnsStart (h : w.rowIs g t n (tnsF L)) : w.rowIs g t n (tnsF (L ++ [⟨0, 0⟩])) := h.congr fun i _ => by
  have e : (L ++ [(⟨0, 0⟩ : Tn)]).getD (i / 3) ⟨0, 0⟩ = L.getD (i / 3) ⟨0, 0⟩ := by
    rw [getD_snocT]; split
    · rename_i h1; rw [List.getD_eq_getElem?_getD, List.getElem?_eq_none (by omega)]; rfl
    · rfl
  unfold tnsF; rw [e]
theorem tnsFar (h : w.rowIs g t n (tnsF (L ++ [T]))) (f j : Nat) (hj : j = L.length) : (w.setCell ⟨g, j * 3 + 2, none⟩ (.int .i64 (f : Int))).rowIs g t n (tnsF (L ++ [⟨T.set, f⟩])) :=
  (h.set (j * 3 + 2) _).congr fun i _ => by
    subst hj
    unfold tnsF
    rw [getD_snocT, getD_snocT]
    by_cases h1 : i = L.length * 3 + 2
    · rw [if_pos h1, if_neg (by omega), if_neg (by omega), if_pos (by omega)]
    · rw [if_neg h1]
      by_cases h2 : i / 3 = L.length
      · rw [if_pos h2, if_pos h2]
        by_cases h3 : i % 3 = 0
        · rw [if_pos h3, if_pos h3]
        · have h4 : i % 3 = 1 := by omega
          rw [if_neg h3, if_pos h4, if_neg h3, if_pos h4]
      · rw [if_neg h2, if_neg h2]
theorem tnsSet (h : w.rowIs g t n (tnsF (L ++ [T]))) (s j : Nat) (hj : j = L.length) : ((w.setCell ⟨g, j * 3, none⟩ (.int .u64 (lo s : Int))).setCell ⟨g, j * 3 + 1, none⟩ (.int .u64 (hi s : Int))).rowIs g t n (tnsF (L ++ [⟨s, T.far⟩])) :=
  ((h.set (j * 3) _).set (j * 3 + 1) _).congr fun i _ => by
    subst hj
    unfold tnsF
    rw [getD_snocT, getD_snocT]
    by_cases h1 : i = L.length * 3 + 1
    · rw [if_pos h1, if_neg (by omega), if_pos (by omega), if_pos (by omega)]
    · rw [if_neg h1]
      by_cases h0 : i = L.length * 3
      · rw [if_pos h0, if_pos (by omega), if_pos (by omega)]
      · rw [if_neg h0]
        by_cases h2 : i / 3 = L.length
        · rw [if_pos h2, if_pos h2, if_neg (by omega), if_neg (by omega), if_neg (by omega), if_neg (by omega)]
        · rw [if_neg h2, if_neg h2]
end
theorem tnsMade (w : World) (m : Nat) (t : TypeId) (g : Nat) (hg : w.heap.size = g) : (w.alloc (.cells (madeCells #[.int .u64 0, .int .u64 0, .int .i64 0] (m * 3)) t)).rowIs g t (m * 3) (tnsF []) := by
  subst hg
  have h := World.rowIs_alloc w (madeCells #[.int .u64 0, .int .u64 0, .int .i64 0] (m * 3)) t (tnsF []) fun i hi => ?_
  · rwa [size_madeCells] at h
  rw [size_madeCells] at hi
  have h2 : i % 3 = 0 ∨ i % 3 = 1 ∨ i % 3 = 2 := by omega
  rcases h2 with h2 | h2 | h2 <;> simp [madeCells, hi, h2, tnsF, lo, Cs.hi]
theorem info_turn : (Tryd.prog.info? 133).map (fun i => (i.zero, i.size, i.bytes)) = some (some (.agg #[.int .u64 0, .int .u64 0, .int .i64 0]), 3, 24) := by kernel_rfl
theorem mk_turn (n : Nat) (h : n ≤ 1000000000) (u : World) : (Instr.makeSlice 131 (.int .i64 (n : Int)) (.int .i64 (n : Int))).run Tryd.prog u =
    .ok (.slice (some ⟨u.heap.size, 0, none⟩) n n) (u.alloc (.cells (madeCells #[.int .u64 0, .int .u64 0, .int .i64 0] (n * 3)) 133)) := by
  obtain ⟨i0, hi, hz0, hz1, hz2⟩ := info_parts info_turn
  have hr := run_make (P := Tryd.prog) u 131 133 i0 _ Tryd.underlying131 hi hz0 .i64 .i64 n n (by omega) (Int.le_refl _) (by rw [hz2]; omega) (by omega)
  simp only [Int.toNat_natCast, hz1] at hr
  exact hr
end Go.Proofs.YtemgfhdgpkmmaaaDoor
