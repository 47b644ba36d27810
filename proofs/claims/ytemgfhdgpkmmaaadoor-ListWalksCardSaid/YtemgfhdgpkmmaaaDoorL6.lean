/- Rows of partial sets that grow: for the walk of least. -/
import Derived.Test.YtemgfhdgpkmmaaaDoorL5
set_option linter.unusedSimpArgs false
set_option linter.unusedVariables false
open Go Go.RowKit Cs
namespace Go.Proofs.YtemgfhdgpkmmaaaDoor
/-- A row of partial sets. -/
def ptsF (L : List Pt) (i : Nat) : Value := if i % 3 = 0 then .int .u64 (lo (L.getD (i / 3) ⟨0, false⟩).set : Int) else if i % 3 = 1 then .int .u64 (hi (L.getD (i / 3) ⟨0, false⟩).set : Int) else .bool (L.getD (i / 3) ⟨0, false⟩).ok
theorem ptsCells {w : World} {g n : Nat} {t : TypeId} {L : List Pt} (h : w.rowIs g t n (ptsF L)) (j : Nat) (hj : j * 3 + 2 < n) (T : Pt) (hT : L.getD j ⟨0, false⟩ = T) :
    w.cell? ⟨g, j * 3, none⟩ = some (.int .u64 (lo T.set : Int)) ∧ w.cell? ⟨g, j * 3 + 1, none⟩ = some (.int .u64 (hi T.set : Int)) ∧ w.cell? ⟨g, j * 3 + 2, none⟩ = some (.bool T.ok) := by
  subst hT
  refine ⟨(h.cell (i := j * 3) (by omega)).trans ?_, (h.cell (i := j * 3 + 1) (by omega)).trans ?_, (h.cell (i := j * 3 + 2) (by omega)).trans ?_⟩
  · unfold ptsF; rw [if_pos (by omega), show j * 3 / 3 = j by omega]
  · unfold ptsF; rw [if_neg (by omega), if_pos (by omega), show (j * 3 + 1) / 3 = j by omega]
  · unfold ptsF; rw [if_neg (by omega), if_neg (by omega), show (j * 3 + 2) / 3 = j by omega]
theorem getD_snocP (L : List Pt) (T : Pt) (i : Nat) : (L ++ [T]).getD i ⟨0, false⟩ = if i = L.length then T else L.getD i ⟨0, false⟩ := by
  rw [List.getD_eq_getElem?_getD, List.getElem?_append]
  by_cases h : i < L.length
  · rw [if_pos h, if_neg (by omega), ← List.getD_eq_getElem?_getD]
  · rw [if_neg h]
    by_cases h2 : i = L.length
    · rw [if_pos h2, h2, Nat.sub_self]; rfl
    · rw [if_neg h2, List.getD_eq_getElem?_getD, List.getElem?_eq_none (by simp; omega), List.getElem?_eq_none (by omega)]
section
variable {w : World} {g n : Nat} {t : TypeId} {L : List Pt} {T : Pt}
theorem ptsStart (h : w.rowIs g t n (ptsF L)) : w.rowIs g t n (ptsF (L ++ [⟨0, false⟩])) := h.congr fun i _ => by
  have e : (L ++ [(⟨0, false⟩ : Pt)]).getD (i / 3) ⟨0, false⟩ = L.getD (i / 3) ⟨0, false⟩ := by
    rw [getD_snocP]; split
    · rename_i h1; rw [List.getD_eq_getElem?_getD, List.getElem?_eq_none (by omega)]; rfl
    · rfl
  unfold ptsF; rw [e]
theorem ptsOk (h : w.rowIs g t n (ptsF (L ++ [T]))) (f : Bool) (j : Nat) (hj : j = L.length) : (w.setCell ⟨g, j * 3 + 2, none⟩ (.bool f)).rowIs g t n (ptsF (L ++ [⟨T.set, f⟩])) :=
  (h.set (j * 3 + 2) _).congr fun i _ => by
    subst hj
    unfold ptsF
    rw [getD_snocP, getD_snocP]
    by_cases h1 : i = L.length * 3 + 2
    · rw [if_pos h1, if_neg (by omega), if_neg (by omega), if_pos (by omega)]
    · rw [if_neg h1]
      by_cases h2 : i / 3 = L.length
      · rw [if_pos h2, if_pos h2]
        by_cases h3 : i % 3 = 0
        · rw [if_pos h3, if_pos h3]
        · have h4 : i % 3 = 1 := by omega
          rw [if_neg h3, if_pos h4, if_neg h3, if_pos h4]
      · rw [if_neg h2, if_neg h2]
theorem ptsSet (h : w.rowIs g t n (ptsF (L ++ [T]))) (s j : Nat) (hj : j = L.length) : ((w.setCell ⟨g, j * 3, none⟩ (.int .u64 (lo s : Int))).setCell ⟨g, j * 3 + 1, none⟩ (.int .u64 (hi s : Int))).rowIs g t n (ptsF (L ++ [⟨s, T.ok⟩])) :=
  ((h.set (j * 3) _).set (j * 3 + 1) _).congr fun i _ => by
    subst hj
    unfold ptsF
    rw [getD_snocP, getD_snocP]
    by_cases h1 : i = L.length * 3 + 1
    · rw [if_pos h1, if_neg (by omega), if_pos (by omega), if_pos (by omega)]
    · rw [if_neg h1]
      by_cases h0 : i = L.length * 3
      · rw [if_pos h0, if_pos (by omega), if_pos (by omega)]
      · rw [if_neg h0]
        by_cases h2 : i / 3 = L.length
        · rw [if_pos h2, if_pos h2, if_neg (by omega), if_neg (by omega), if_neg (by omega), if_neg (by omega)]
        · rw [if_neg h2, if_neg h2]
end
theorem ptsMade (w : World) (m : Nat) (t : TypeId) (g : Nat) (hg : w.heap.size = g) : (w.alloc (.cells (madeCells #[.int .u64 0, .int .u64 0, .bool false] (m * 3)) t)).rowIs g t (m * 3) (ptsF []) := by
  subst hg
  have h := World.rowIs_alloc w (madeCells #[.int .u64 0, .int .u64 0, .bool false] (m * 3)) t (ptsF []) fun i hi => ?_
  · rwa [size_madeCells] at h
  rw [size_madeCells] at hi
  have h2 : i % 3 = 0 ∨ i % 3 = 1 ∨ i % 3 = 2 := by omega
  rcases h2 with h2 | h2 | h2 <;> simp [madeCells, hi, h2, ptsF, lo, Cs.hi]
theorem info_part : (Tryd.prog.info? 128).map (fun i => (i.zero, i.size, i.bytes)) = some (some (.agg #[.int .u64 0, .int .u64 0, .bool false]), 3, 24) := by kernel_rfl
theorem mk_part (n : Nat) (h : n ≤ 1000000000) (u : World) : (Instr.makeSlice 126 (.int .i64 (n : Int)) (.int .i64 (n : Int))).run Tryd.prog u =
    .ok (.slice (some ⟨u.heap.size, 0, none⟩) n n) (u.alloc (.cells (madeCells #[.int .u64 0, .int .u64 0, .bool false] (n * 3)) 128)) := by
  obtain ⟨i0, hi, hz0, hz1, hz2⟩ := info_parts info_part
  have hr := run_make (P := Tryd.prog) u 126 128 i0 _ Tryd.underlying126 hi hz0 .i64 .i64 n n (by omega) (Int.le_refl _) (by rw [hz2]; omega) (by omega)
  simp only [Int.toNat_natCast, hz1] at hr
  exact hr
end Go.Proofs.YtemgfhdgpkmmaaaDoor
