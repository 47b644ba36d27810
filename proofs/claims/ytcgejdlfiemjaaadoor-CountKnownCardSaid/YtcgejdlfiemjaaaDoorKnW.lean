/- The walk of the law CountKnown. -/
import Derived.Test.YtcgejdlfiemjaaaDoorK1
set_option linter.unusedSimpArgs false
set_option linter.unusedVariables false
open Go Go.RowKit Cs
namespace Cs
def allN : Nt := ⟨3, [⟨1, 0, []⟩]⟩
def allNA : Array Value := #[.int .i64 1, .int .i64 0, .slice none 0 0]
theorem allN_at {w : World} {B g : Nat} {t : TypeId} (hg : g < B) (hr : w.rowIs g t 3 (arrF (allNA ))) : NtAt w B (some ⟨g, 0, none⟩) allN.l := fun _ => by
  refine ⟨g, 0, rfl, hg, fun i hi => ?_⟩
  match i, hi with
  | 0, _ => exact ⟨hr.cell (i := 0) (by decide), hr.cell (i := 1) (by decide), ⟨none, 0, hr.cell (i := 2) (by decide), Rd.zero _ _ _ _⟩, (show r64 (1) by unfold r64; decide), (show r64 (0) by unfold r64; decide), (show ∀ i ∈ ([] : List Int), r64 i by unfold r64; decide), (show ([] : List Int).length ≤ 140737488355328 by decide)⟩
def twoN : Nt := ⟨3, [⟨2, 1, []⟩, ⟨2, 2, []⟩, ⟨4, 0, [0, 1]⟩]⟩
def twoNA (b2 : Nat) : Array Value := #[.int .i64 2, .int .i64 1, .slice none 0 0, .int .i64 2, .int .i64 2, .slice none 0 0, .int .i64 4, .int .i64 0, .slice (some ⟨b2, 0, none⟩) 2 2]
theorem twoN_at {w : World} {B g b2 : Nat} {t : TypeId} {s : TypeId} (hg : g < B) (h2 : b2 < B) (r2 : w.rowIs b2 s 2 (arrF #[.int .i64 0, .int .i64 1])) (hr : w.rowIs g t 9 (arrF (twoNA b2))) : NtAt w B (some ⟨g, 0, none⟩) twoN.l := fun _ => by
  refine ⟨g, 0, rfl, hg, fun i hi => ?_⟩
  match i, hi with
  | 0, _ => exact ⟨hr.cell (i := 0) (by decide), hr.cell (i := 1) (by decide), ⟨none, 0, hr.cell (i := 2) (by decide), Rd.zero _ _ _ _⟩, (show r64 (2) by unfold r64; decide), (show r64 (1) by unfold r64; decide), (show ∀ i ∈ ([] : List Int), r64 i by unfold r64; decide), (show ([] : List Int).length ≤ 140737488355328 by decide)⟩
  | 1, _ => exact ⟨hr.cell (i := 3) (by decide), hr.cell (i := 4) (by decide), ⟨none, 0, hr.cell (i := 5) (by decide), Rd.zero _ _ _ _⟩, (show r64 (2) by unfold r64; decide), (show r64 (2) by unfold r64; decide), (show ∀ i ∈ ([] : List Int), r64 i by unfold r64; decide), (show ([] : List Int).length ≤ 140737488355328 by decide)⟩
  | 2, _ => exact ⟨hr.cell (i := 6) (by decide), hr.cell (i := 7) (by decide), ⟨some ⟨b2, 0, none⟩, 2, hr.cell (i := 8) (by decide), Rd.of_row (r2.congr fun j hj => by
      match j, hj with
      | 0, _ => rfl
      | 1, _ => rfl
      ) (Nat.le_refl _) h2⟩, (show r64 (4) by unfold r64; decide), (show r64 (0) by unfold r64; decide), (show ∀ i ∈ ([0, 1] : List Int), r64 i by unfold r64; decide), (show ([0, 1] : List Int).length ≤ 140737488355328 by decide)⟩
def badN : Nt := ⟨3, [⟨2, 1, []⟩, ⟨2, 1, []⟩, ⟨3, 0, [0, 1]⟩]⟩
def badNA (b2 : Nat) : Array Value := #[.int .i64 2, .int .i64 1, .slice none 0 0, .int .i64 2, .int .i64 1, .slice none 0 0, .int .i64 3, .int .i64 0, .slice (some ⟨b2, 0, none⟩) 2 2]
theorem badN_at {w : World} {B g b2 : Nat} {t : TypeId} {s : TypeId} (hg : g < B) (h2 : b2 < B) (r2 : w.rowIs b2 s 2 (arrF #[.int .i64 0, .int .i64 1])) (hr : w.rowIs g t 9 (arrF (badNA b2))) : NtAt w B (some ⟨g, 0, none⟩) badN.l := fun _ => by
  refine ⟨g, 0, rfl, hg, fun i hi => ?_⟩
  match i, hi with
  | 0, _ => exact ⟨hr.cell (i := 0) (by decide), hr.cell (i := 1) (by decide), ⟨none, 0, hr.cell (i := 2) (by decide), Rd.zero _ _ _ _⟩, (show r64 (2) by unfold r64; decide), (show r64 (1) by unfold r64; decide), (show ∀ i ∈ ([] : List Int), r64 i by unfold r64; decide), (show ([] : List Int).length ≤ 140737488355328 by decide)⟩
  | 1, _ => exact ⟨hr.cell (i := 3) (by decide), hr.cell (i := 4) (by decide), ⟨none, 0, hr.cell (i := 5) (by decide), Rd.zero _ _ _ _⟩, (show r64 (2) by unfold r64; decide), (show r64 (1) by unfold r64; decide), (show ∀ i ∈ ([] : List Int), r64 i by unfold r64; decide), (show ([] : List Int).length ≤ 140737488355328 by decide)⟩
  | 2, _ => exact ⟨hr.cell (i := 6) (by decide), hr.cell (i := 7) (by decide), ⟨some ⟨b2, 0, none⟩, 2, hr.cell (i := 8) (by decide), Rd.of_row (r2.congr fun j hj => by
      match j, hj with
      | 0, _ => rfl
      | 1, _ => rfl
      ) (Nat.le_refl _) h2⟩, (show r64 (3) by unfold r64; decide), (show r64 (0) by unfold r64; decide), (show ∀ i ∈ ([0, 1] : List Int), r64 i by unfold r64; decide), (show ([0, 1] : List Int).length ≤ 140737488355328 by decide)⟩

def noneN : Nt := ⟨0, [⟨1, 0, []⟩]⟩
def bigN : Nt := ⟨128, [⟨1, 0, []⟩]⟩
def nilN : Nt := ⟨0, []⟩
theorem two_chk : cchk twoN = 0 := by decide +kernel
theorem two_cnt : cntN twoN = 8 := by decide +kernel
theorem two_low : lowL twoN 3 = [0, 2, 2, 4] := by decide +kernel
theorem two_high : highL twoN 3 = [0, 6, 6, 4] := by decide +kernel
theorem two_card : cardL twoN 3 = [0, 2, 4, 2] := by decide +kernel
theorem all_chk : cchk allN = 0 := by decide +kernel
theorem all_card : cardL allN 3 = [1, 3, 3, 1] := by decide +kernel
theorem bad_chk : cchk badN = 210 := by decide +kernel
theorem bad_cnt : cntN badN = 0 := by decide +kernel
theorem nil_chk : cchk nilN = 1 := by decide +kernel
theorem none_chk : cchk noneN = 0 := by decide +kernel
theorem none_card : cardL noneN 0 = [1] := by decide +kernel
theorem big_chk : cchk bigN = 0 := by decide +kernel
theorem big_cnt : cntN bigN = 2 ^ 128 := by decide +kernel
theorem dec_six : dec 6 = ⟨#[54]⟩ := by decide +kernel
theorem dec_eight : dec 8 = ⟨#[56]⟩ := by decide +kernel
theorem few1 (a : Nat) (ha : a < 256) : ∀ i, ([a] : List Nat).getD i 0 < 256
  | 0 => ha
  | _ + 1 => by simp
end Cs
namespace Go.Proofs.YtcgejdlfiemjaaaDoor
theorem lit1 (a : Nat) (A : ByteArray) (ha : dec a = A) : ∀ i, i < 1 → arrF #[.string A] i = decF [a] i
  | 0, _ => congrArg Value.string ha.symm
/-- The law's three nets in memory. -/
structure KN (h : Nat) (W : World) : Prop where
  a : NtAt W W.heap.size (some ⟨h, 0, none⟩) allN.l
  an : W.rowIs (h + 1) 24 2 (ntF allN (some ⟨h, 0, none⟩) 1)
  t : NtAt W W.heap.size (some ⟨h + 1 + 1 + 1, 0, none⟩) twoN.l
  tn : W.rowIs (h + 1 + 1 + 1 + 1) 24 2 (ntF twoN (some ⟨h + 1 + 1 + 1, 0, none⟩) 3)
  b : NtAt W W.heap.size (some ⟨h + 1 + 1 + 1 + 1 + 1 + 1, 0, none⟩) badN.l
  bn : W.rowIs (h + 1 + 1 + 1 + 1 + 1 + 1 + 1) 24 2 (ntF badN (some ⟨h + 1 + 1 + 1 + 1 + 1 + 1, 0, none⟩) 3)
theorem KN.below {h : Nat} {W W' : World} (k : KN h W) (hb : Below W.heap.size W W') : KN h W' :=
  ⟨(k.a.below hb).more hb.size, rowBelow k.an hb, (k.t.below hb).more hb.size, rowBelow k.tn hb, (k.b.below hb).more hb.size, rowBelow k.bn hb⟩
theorem KN.cells {h : Nat} {W : World} (k : KN h W) : (W.cell? ⟨h + 1, 0, none⟩ = some (.int .i64 3) ∧ W.cell? ⟨h + 1, 1, none⟩ = some (.slice (some ⟨h, 0, none⟩) 1 1)) ∧
    (W.cell? ⟨h + 1 + 1 + 1 + 1, 0, none⟩ = some (.int .i64 3) ∧ W.cell? ⟨h + 1 + 1 + 1 + 1, 1, none⟩ = some (.slice (some ⟨h + 1 + 1 + 1, 0, none⟩) 3 3)) ∧
    (W.cell? ⟨h + 1 + 1 + 1 + 1 + 1 + 1 + 1, 0, none⟩ = some (.int .i64 3) ∧ W.cell? ⟨h + 1 + 1 + 1 + 1 + 1 + 1 + 1, 1, none⟩ = some (.slice (some ⟨h + 1 + 1 + 1 + 1 + 1 + 1, 0, none⟩) 3 3)) := ⟨ntCells k.an, ntCells k.tn, ntCells k.bn⟩
theorem KN.alloc {h : Nat} {W : World} (k : KN h W) (o : Obj) : KN h (W.alloc o) := k.below ((Below.refl _ _).alloc (Nat.le_refl _) _)
theorem known_laid (w : World) (h : Nat) (hh : w.heap.size = h) : KN h (((((((((w.alloc (.cells (allNA) 52)).alloc (.cells #[.int .i64 3, .slice (some ⟨h, 0, none⟩) 1 1] 24)).alloc (.cells #[.int .i64 0, .int .i64 1] 3)).alloc (.cells (twoNA (h + 1 + 1)) 52)).alloc (.cells #[.int .i64 3, .slice (some ⟨h + 1 + 1 + 1, 0, none⟩) 3 3] 24)).alloc (.cells #[.int .i64 0, .int .i64 1] 3)).alloc (.cells (badNA (h + 1 + 1 + 1 + 1 + 1)) 52)).alloc (.cells #[.int .i64 3, .slice (some ⟨h + 1 + 1 + 1 + 1 + 1 + 1, 0, none⟩) 3 3] 24))) ∧ Below w.heap.size w ((((((((w.alloc (.cells (allNA) 52)).alloc (.cells #[.int .i64 3, .slice (some ⟨h, 0, none⟩) 1 1] 24)).alloc (.cells #[.int .i64 0, .int .i64 1] 3)).alloc (.cells (twoNA (h + 1 + 1)) 52)).alloc (.cells #[.int .i64 3, .slice (some ⟨h + 1 + 1 + 1, 0, none⟩) 3 3] 24)).alloc (.cells #[.int .i64 0, .int .i64 1] 3)).alloc (.cells (badNA (h + 1 + 1 + 1 + 1 + 1)) 52)).alloc (.cells #[.int .i64 3, .slice (some ⟨h + 1 + 1 + 1 + 1 + 1 + 1, 0, none⟩) 3 3] 24)) := by
  have r0 := arrNew w (allNA) 52 (h) 3 (by simp [hh]) rfl
  have r1 := arrNew (w.alloc (.cells (allNA) 52)) #[.int .i64 3, .slice (some ⟨h, 0, none⟩) 1 1] 24 (h + 1) 2 (by simp [hh]) rfl
  have r2 := arrNew ((w.alloc (.cells (allNA) 52)).alloc (.cells #[.int .i64 3, .slice (some ⟨h, 0, none⟩) 1 1] 24)) #[.int .i64 0, .int .i64 1] 3 (h + 1 + 1) 2 (by simp [hh]) rfl
  have r3 := arrNew (((w.alloc (.cells (allNA) 52)).alloc (.cells #[.int .i64 3, .slice (some ⟨h, 0, none⟩) 1 1] 24)).alloc (.cells #[.int .i64 0, .int .i64 1] 3)) (twoNA (h + 1 + 1)) 52 (h + 1 + 1 + 1) 9 (by simp [hh]) rfl
  have r4 := arrNew ((((w.alloc (.cells (allNA) 52)).alloc (.cells #[.int .i64 3, .slice (some ⟨h, 0, none⟩) 1 1] 24)).alloc (.cells #[.int .i64 0, .int .i64 1] 3)).alloc (.cells (twoNA (h + 1 + 1)) 52)) #[.int .i64 3, .slice (some ⟨h + 1 + 1 + 1, 0, none⟩) 3 3] 24 (h + 1 + 1 + 1 + 1) 2 (by simp [hh]) rfl
  have r5 := arrNew (((((w.alloc (.cells (allNA) 52)).alloc (.cells #[.int .i64 3, .slice (some ⟨h, 0, none⟩) 1 1] 24)).alloc (.cells #[.int .i64 0, .int .i64 1] 3)).alloc (.cells (twoNA (h + 1 + 1)) 52)).alloc (.cells #[.int .i64 3, .slice (some ⟨h + 1 + 1 + 1, 0, none⟩) 3 3] 24)) #[.int .i64 0, .int .i64 1] 3 (h + 1 + 1 + 1 + 1 + 1) 2 (by simp [hh]) rfl
  have r6 := arrNew ((((((w.alloc (.cells (allNA) 52)).alloc (.cells #[.int .i64 3, .slice (some ⟨h, 0, none⟩) 1 1] 24)).alloc (.cells #[.int .i64 0, .int .i64 1] 3)).alloc (.cells (twoNA (h + 1 + 1)) 52)).alloc (.cells #[.int .i64 3, .slice (some ⟨h + 1 + 1 + 1, 0, none⟩) 3 3] 24)).alloc (.cells #[.int .i64 0, .int .i64 1] 3)) (badNA (h + 1 + 1 + 1 + 1 + 1)) 52 (h + 1 + 1 + 1 + 1 + 1 + 1) 9 (by simp [hh]) rfl
  have r7 := arrNew (((((((w.alloc (.cells (allNA) 52)).alloc (.cells #[.int .i64 3, .slice (some ⟨h, 0, none⟩) 1 1] 24)).alloc (.cells #[.int .i64 0, .int .i64 1] 3)).alloc (.cells (twoNA (h + 1 + 1)) 52)).alloc (.cells #[.int .i64 3, .slice (some ⟨h + 1 + 1 + 1, 0, none⟩) 3 3] 24)).alloc (.cells #[.int .i64 0, .int .i64 1] 3)).alloc (.cells (badNA (h + 1 + 1 + 1 + 1 + 1)) 52)) #[.int .i64 3, .slice (some ⟨h + 1 + 1 + 1 + 1 + 1 + 1, 0, none⟩) 3 3] 24 (h + 1 + 1 + 1 + 1 + 1 + 1 + 1) 2 (by simp [hh]) rfl
  have hz : ((((((((w.alloc (.cells (allNA) 52)).alloc (.cells #[.int .i64 3, .slice (some ⟨h, 0, none⟩) 1 1] 24)).alloc (.cells #[.int .i64 0, .int .i64 1] 3)).alloc (.cells (twoNA (h + 1 + 1)) 52)).alloc (.cells #[.int .i64 3, .slice (some ⟨h + 1 + 1 + 1, 0, none⟩) 3 3] 24)).alloc (.cells #[.int .i64 0, .int .i64 1] 3)).alloc (.cells (badNA (h + 1 + 1 + 1 + 1 + 1)) 52)).alloc (.cells #[.int .i64 3, .slice (some ⟨h + 1 + 1 + 1 + 1 + 1 + 1, 0, none⟩) 3 3] 24)).heap.size = h + 1 + 1 + 1 + 1 + 1 + 1 + 1 + 1 := by simp [hh]
  have u0 := (((((((r0.alloc (.cells #[.int .i64 3, .slice (some ⟨h, 0, none⟩) 1 1] 24)).alloc (.cells #[.int .i64 0, .int .i64 1] 3)).alloc (.cells (twoNA (h + 1 + 1)) 52)).alloc (.cells #[.int .i64 3, .slice (some ⟨h + 1 + 1 + 1, 0, none⟩) 3 3] 24)).alloc (.cells #[.int .i64 0, .int .i64 1] 3)).alloc (.cells (badNA (h + 1 + 1 + 1 + 1 + 1)) 52)).alloc (.cells #[.int .i64 3, .slice (some ⟨h + 1 + 1 + 1 + 1 + 1 + 1, 0, none⟩) 3 3] 24))
  have u1 := ((((((r1.alloc (.cells #[.int .i64 0, .int .i64 1] 3)).alloc (.cells (twoNA (h + 1 + 1)) 52)).alloc (.cells #[.int .i64 3, .slice (some ⟨h + 1 + 1 + 1, 0, none⟩) 3 3] 24)).alloc (.cells #[.int .i64 0, .int .i64 1] 3)).alloc (.cells (badNA (h + 1 + 1 + 1 + 1 + 1)) 52)).alloc (.cells #[.int .i64 3, .slice (some ⟨h + 1 + 1 + 1 + 1 + 1 + 1, 0, none⟩) 3 3] 24))
  have u2 := (((((r2.alloc (.cells (twoNA (h + 1 + 1)) 52)).alloc (.cells #[.int .i64 3, .slice (some ⟨h + 1 + 1 + 1, 0, none⟩) 3 3] 24)).alloc (.cells #[.int .i64 0, .int .i64 1] 3)).alloc (.cells (badNA (h + 1 + 1 + 1 + 1 + 1)) 52)).alloc (.cells #[.int .i64 3, .slice (some ⟨h + 1 + 1 + 1 + 1 + 1 + 1, 0, none⟩) 3 3] 24))
  have u3 := ((((r3.alloc (.cells #[.int .i64 3, .slice (some ⟨h + 1 + 1 + 1, 0, none⟩) 3 3] 24)).alloc (.cells #[.int .i64 0, .int .i64 1] 3)).alloc (.cells (badNA (h + 1 + 1 + 1 + 1 + 1)) 52)).alloc (.cells #[.int .i64 3, .slice (some ⟨h + 1 + 1 + 1 + 1 + 1 + 1, 0, none⟩) 3 3] 24))
  have u4 := (((r4.alloc (.cells #[.int .i64 0, .int .i64 1] 3)).alloc (.cells (badNA (h + 1 + 1 + 1 + 1 + 1)) 52)).alloc (.cells #[.int .i64 3, .slice (some ⟨h + 1 + 1 + 1 + 1 + 1 + 1, 0, none⟩) 3 3] 24))
  have u5 := ((r5.alloc (.cells (badNA (h + 1 + 1 + 1 + 1 + 1)) 52)).alloc (.cells #[.int .i64 3, .slice (some ⟨h + 1 + 1 + 1 + 1 + 1 + 1, 0, none⟩) 3 3] 24))
  have u6 := (r6.alloc (.cells #[.int .i64 3, .slice (some ⟨h + 1 + 1 + 1 + 1 + 1 + 1, 0, none⟩) 3 3] 24))
  have u7 := r7
  have hb : Below w.heap.size w ((((((((w.alloc (.cells (allNA) 52)).alloc (.cells #[.int .i64 3, .slice (some ⟨h, 0, none⟩) 1 1] 24)).alloc (.cells #[.int .i64 0, .int .i64 1] 3)).alloc (.cells (twoNA (h + 1 + 1)) 52)).alloc (.cells #[.int .i64 3, .slice (some ⟨h + 1 + 1 + 1, 0, none⟩) 3 3] 24)).alloc (.cells #[.int .i64 0, .int .i64 1] 3)).alloc (.cells (badNA (h + 1 + 1 + 1 + 1 + 1)) 52)).alloc (.cells #[.int .i64 3, .slice (some ⟨h + 1 + 1 + 1 + 1 + 1 + 1, 0, none⟩) 3 3] 24)) := (((((((((Below.refl w.heap.size w).alloc (by simp) (.cells (allNA) 52)).alloc (by simp) (.cells #[.int .i64 3, .slice (some ⟨h, 0, none⟩) 1 1] 24)).alloc (by simp; omega) (.cells #[.int .i64 0, .int .i64 1] 3)).alloc (by simp; omega) (.cells (twoNA (h + 1 + 1)) 52)).alloc (by simp; omega) (.cells #[.int .i64 3, .slice (some ⟨h + 1 + 1 + 1, 0, none⟩) 3 3] 24)).alloc (by simp; omega) (.cells #[.int .i64 0, .int .i64 1] 3)).alloc (by simp; omega) (.cells (badNA (h + 1 + 1 + 1 + 1 + 1)) 52)).alloc (by simp; omega) (.cells #[.int .i64 3, .slice (some ⟨h + 1 + 1 + 1 + 1 + 1 + 1, 0, none⟩) 3 3] 24))
  refine ⟨⟨allN_at (by rw [hz]; omega) u0, u1.congr fun i hi => ?_, twoN_at (by rw [hz]; omega) (by rw [hz]; omega) u2 u3, u4.congr fun i hi => ?_, badN_at (by rw [hz]; omega) (by rw [hz]; omega) u5 u6, u7.congr fun i hi => ?_⟩, hb⟩
  all_goals
    have : i = 0 ∨ i = 1 := by omega
    rcases this with rfl | rfl <;> rfl
theorem one_at {w : World} {B g : Nat} {t : TypeId} (hg : g < B) (hr : w.rowIs g t 3 (arrF #[.int .i64 1, .int .i64 0, .slice none 0 0])) : NtAt w B (some ⟨g, 0, none⟩) [⟨1, 0, []⟩] := allN_at hg hr
set_option maxRecDepth 100000 in
set_option maxHeartbeats 4000000 in
theorem countKnown_any (w : World) (hT : Tab w) : Calls Tryd.prog 8 #[] w fun e w' => e = .returned (.bool true) ∧ Below w.heap.size w w' := by
  have hc2 := fun W A c h hT => count_any W twoN A c (by decide) h hT
  have hl2 := fun W A c h hT => byLit_any W twoN A c 3 rfl h hT two_chk
  have hr2 := fun W A c h hT => byCard_any W twoN A c 3 rfl h hT two_chk
  have hra := fun W A c h hT => byCard_any W allN A c 3 rfl h hT all_chk
  have hcb := fun W A c h hT => count_any W badN A c (by decide) h hT
  have hln := fun W A c h hT => byLit_no W nilN A c (by decide) h hT (by rw [nil_chk]; decide)
  have hrn := fun W A c h hT => byCard_any W noneN A c 0 rfl h hT none_chk
  have hcg := fun W A c h hT => count_any W bigN A c (by decide) h hT
  rw [two_cnt, two_chk] at hc2
  rw [two_low, two_high] at hl2
  rw [two_card] at hr2
  rw [all_card] at hra
  rw [bad_cnt, bad_chk] at hcb
  rw [nil_chk] at hln
  rw [none_card] at hrn
  rw [big_cnt, big_chk] at hcg
  obtain ⟨V, hV⟩ : ∃ V : Nat, 2 ^ 128 = V := ⟨_, rfl⟩
  have hpw := fun W => pow2_yes W 128 (by decide) (by decide)
  rw [show (2 : Nat) ^ (128 : Int).toNat = V from hV] at hpw
  rw [hV] at hcg
  have hcm := fun W => cmp_eq W V
  have htx := fun W => text_any W 8 (n8_few 8 (by decide))
  rw [dec_eight] at htx
  have HC2 := Lib.hid hc2
  have HL2 := Lib.hid hl2
  have HR2 := Lib.hid hr2
  have HRA := Lib.hid hra
  have HCB := Lib.hid hcb
  have HLN := Lib.hid hln
  have HRN := Lib.hid hrn
  have HCG := Lib.hid hcg
  have HPW := Lib.hid hpw
  have HCM := Lib.hid hcm
  have HTX := Lib.hid htx
  have HWK := Lib.hid works_any
  clear hc2 hl2 hr2 hra hcb hln hrn hcg hpw hcm htx hV
  obtain ⟨hk, hbl⟩ := known_laid w w.heap.size rfl
  have hcs := hk.cells
  obtain ⟨⟨ca1, ca2⟩, ⟨ct1, ct2⟩, ⟨cb1, cb2⟩⟩ := hcs
  go_enter Tryd.func8, Tryd.ntmps8
  go_wp2_with fail
  refine (HC2.out _ _ _ hk.t (hT.below hbl)).mono ?_
  rintro e wn ⟨rfl, hbn⟩
  replace hk := hk.below hbn
  replace hbl := Cs.Below.trans' hbl hbn hbl.size
  clear hbn ca1 ca2 ct1 ct2 cb1 cb2
  have x4 := boxNew wn (.string (natB 8)) 28 _ rfl
  replace hk := hk.alloc (.cells #[.string (natB 8)] 28)
  replace hbl := hbl.alloc hbl.size (.cells #[.string (natB 8)] 28)
  have hcs := hk.cells
  obtain ⟨⟨ca1, ca2⟩, ⟨ct1, ct2⟩, ⟨cb1, cb2⟩⟩ := hcs
  go_wp2_with fail
  refine (HL2.out _ _ _ hk.t (hT.below hbl)).mono ?_
  rintro e wn ⟨gl, gh, rfl, hgl, hgh, rl, rh, hbn⟩
  replace x4 := rowBelow x4 hbn
  replace hk := hk.below hbn
  replace hbl := Cs.Below.trans' hbl hbn hbl.size
  clear hbn ca1 ca2 ct1 ct2 cb1 cb2
  have hcs := hk.cells
  obtain ⟨⟨ca1, ca2⟩, ⟨ct1, ct2⟩, ⟨cb1, cb2⟩⟩ := hcs
  go_wp2_with fail
  refine (HR2.out _ _ _ hk.t (hT.below hbl)).mono ?_
  rintro e wn ⟨gc, rfl, hgc, rc, hbn⟩
  replace x4 := rowBelow x4 hbn
  replace rl := rowBelow rl hbn
  replace rh := rowBelow rh hbn
  replace hk := hk.below hbn
  replace hbl := Cs.Below.trans' hbl hbn hbl.size
  clear hbn ca1 ca2 ct1 ct2 cb1 cb2
  have hcs := hk.cells
  obtain ⟨⟨ca1, ca2⟩, ⟨ct1, ct2⟩, ⟨cb1, cb2⟩⟩ := hcs
  go_wp2_with fail
  refine (HRA.out _ _ _ hk.a (hT.below hbl)).mono ?_
  rintro e wn ⟨ga, rfl, hga, ra, hbn⟩
  replace x4 := rowBelow x4 hbn
  replace rl := rowBelow rl hbn
  replace rh := rowBelow rh hbn
  replace rc := rowBelow rc hbn
  replace hk := hk.below hbn
  replace hbl := Cs.Below.trans' hbl hbn hbl.size
  clear hbn ca1 ca2 ct1 ct2 cb1 cb2
  have hcs := hk.cells
  obtain ⟨⟨ca1, ca2⟩, ⟨ct1, ct2⟩, ⟨cb1, cb2⟩⟩ := hcs
  go_wp2_with fail
  refine (HCB.out _ _ _ hk.b (hT.below hbl)).mono ?_
  rintro e wn ⟨rfl, hbn⟩
  replace x4 := rowBelow x4 hbn
  replace rl := rowBelow rl hbn
  replace rh := rowBelow rh hbn
  replace rc := rowBelow rc hbn
  replace ra := rowBelow ra hbn
  replace hk := hk.below hbn
  replace hbl := Cs.Below.trans' hbl hbn hbl.size
  clear hbn ca1 ca2 ct1 ct2 cb1 cb2
  replace hk := hk.alloc (.cells #[.string (natB 0)] 28)
  replace hbl := hbl.alloc hbl.size (.cells #[.string (natB 0)] 28)
  replace x4 := x4.alloc (.cells #[.string (natB 0)] 28)
  replace rl := rl.alloc (.cells #[.string (natB 0)] 28)
  replace rh := rh.alloc (.cells #[.string (natB 0)] 28)
  replace rc := rc.alloc (.cells #[.string (natB 0)] 28)
  replace ra := ra.alloc (.cells #[.string (natB 0)] 28)
  have hcs := hk.cells
  obtain ⟨⟨ca1, ca2⟩, ⟨ct1, ct2⟩, ⟨cb1, cb2⟩⟩ := hcs
  go_wp2_with fail
  refine (HLN.out _ none 0 (fun h => absurd h (by decide)) (hT.below hbl)).mono ?_
  rintro e wn ⟨rfl, hbn⟩
  replace x4 := rowBelow x4 hbn
  replace rl := rowBelow rl hbn
  replace rh := rowBelow rh hbn
  replace rc := rowBelow rc hbn
  replace ra := rowBelow ra hbn
  replace hk := hk.below hbn
  replace hbl := Cs.Below.trans' hbl hbn hbl.size
  clear hbn ca1 ca2 ct1 ct2 cb1 cb2
  have r1 := arrNew wn #[.int .i64 1, .int .i64 0, .slice none 0 0] 52 _ 3 rfl rfl
  replace x4 := x4.alloc (.cells #[.int .i64 1, .int .i64 0, .slice none 0 0] 52)
  replace rl := rl.alloc (.cells #[.int .i64 1, .int .i64 0, .slice none 0 0] 52)
  replace rh := rh.alloc (.cells #[.int .i64 1, .int .i64 0, .slice none 0 0] 52)
  replace rc := rc.alloc (.cells #[.int .i64 1, .int .i64 0, .slice none 0 0] 52)
  replace ra := ra.alloc (.cells #[.int .i64 1, .int .i64 0, .slice none 0 0] 52)
  replace hk := hk.alloc (.cells #[.int .i64 1, .int .i64 0, .slice none 0 0] 52)
  replace hbl := hbl.alloc hbl.size (.cells #[.int .i64 1, .int .i64 0, .slice none 0 0] 52)
  have hn1 := one_at (B := (wn.alloc (.cells #[.int .i64 1, .int .i64 0, .slice none 0 0] 52)).heap.size) (by simp) r1
  clear r1
  go_wp2_with fail
  refine (HRN.out _ _ _ hn1 (hT.below hbl)).mono ?_
  rintro e wn ⟨gn, rfl, hgn, rn, hbn⟩
  replace x4 := rowBelow x4 hbn
  replace rl := rowBelow rl hbn
  replace rh := rowBelow rh hbn
  replace rc := rowBelow rc hbn
  replace ra := rowBelow ra hbn
  replace hk := hk.below hbn
  replace hbl := Cs.Below.trans' hbl hbn hbl.size
  clear hbn
  have r1 := arrNew wn #[.int .i64 1, .int .i64 0, .slice none 0 0] 52 _ 3 rfl rfl
  replace x4 := x4.alloc (.cells #[.int .i64 1, .int .i64 0, .slice none 0 0] 52)
  replace rl := rl.alloc (.cells #[.int .i64 1, .int .i64 0, .slice none 0 0] 52)
  replace rh := rh.alloc (.cells #[.int .i64 1, .int .i64 0, .slice none 0 0] 52)
  replace rc := rc.alloc (.cells #[.int .i64 1, .int .i64 0, .slice none 0 0] 52)
  replace ra := ra.alloc (.cells #[.int .i64 1, .int .i64 0, .slice none 0 0] 52)
  replace rn := rn.alloc (.cells #[.int .i64 1, .int .i64 0, .slice none 0 0] 52)
  replace hk := hk.alloc (.cells #[.int .i64 1, .int .i64 0, .slice none 0 0] 52)
  replace hbl := hbl.alloc hbl.size (.cells #[.int .i64 1, .int .i64 0, .slice none 0 0] 52)
  have hn1 := one_at (B := (wn.alloc (.cells #[.int .i64 1, .int .i64 0, .slice none 0 0] 52)).heap.size) (by simp) r1
  clear r1
  go_wp2_with fail
  refine (HCG.out _ _ _ hn1 (hT.below hbl)).mono ?_
  rintro e wn ⟨rfl, hbn⟩
  replace x4 := rowBelow x4 hbn
  replace rl := rowBelow rl hbn
  replace rh := rowBelow rh hbn
  replace rc := rowBelow rc hbn
  replace ra := rowBelow ra hbn
  replace rn := rowBelow rn hbn
  replace hk := hk.below hbn
  replace hbl := Cs.Below.trans' hbl hbn hbl.size
  clear hbn
  obtain ⟨wbig, rfl⟩ : ∃ wbig, wbig = wn := ⟨wn, rfl⟩
  have x20 := boxNew wbig (.string (natB V)) 28 _ rfl
  replace hbl := hbl.alloc hbl.size (.cells #[.string (natB V)] 28)
  replace x4 := x4.alloc (.cells #[.string (natB V)] 28)
  replace rl := rl.alloc (.cells #[.string (natB V)] 28)
  replace rh := rh.alloc (.cells #[.string (natB V)] 28)
  replace rc := rc.alloc (.cells #[.string (natB V)] 28)
  replace ra := ra.alloc (.cells #[.string (natB V)] 28)
  replace rn := rn.alloc (.cells #[.string (natB V)] 28)
  have c4 := boxCell x4
  clear hk hn1
  go_wp2_with fail
  refine (HTX.out _).mono ?_
  rintro e wn ⟨rfl, hbn⟩
  replace rl := rowBelow rl hbn
  replace rh := rowBelow rh hbn
  replace rc := rowBelow rc hbn
  replace ra := rowBelow ra hbn
  replace rn := rowBelow rn hbn
  replace x20 := rowBelow x20 hbn
  replace hbl := Cs.Below.trans' hbl hbn hbl.size
  clear hbn
  have ra1 := arrNew wn #[.string ⟨#[48]⟩, .string ⟨#[50]⟩, .string ⟨#[50]⟩, .string ⟨#[52]⟩] 9 _ 4 rfl rfl
  replace rl := rl.alloc (.cells #[.string ⟨#[48]⟩, .string ⟨#[50]⟩, .string ⟨#[50]⟩, .string ⟨#[52]⟩] 9)
  replace rh := rh.alloc (.cells #[.string ⟨#[48]⟩, .string ⟨#[50]⟩, .string ⟨#[50]⟩, .string ⟨#[52]⟩] 9)
  replace rc := rc.alloc (.cells #[.string ⟨#[48]⟩, .string ⟨#[50]⟩, .string ⟨#[50]⟩, .string ⟨#[52]⟩] 9)
  replace ra := ra.alloc (.cells #[.string ⟨#[48]⟩, .string ⟨#[50]⟩, .string ⟨#[50]⟩, .string ⟨#[52]⟩] 9)
  replace rn := rn.alloc (.cells #[.string ⟨#[48]⟩, .string ⟨#[50]⟩, .string ⟨#[50]⟩, .string ⟨#[52]⟩] 9)
  replace x20 := x20.alloc (.cells #[.string ⟨#[48]⟩, .string ⟨#[50]⟩, .string ⟨#[50]⟩, .string ⟨#[52]⟩] 9)
  replace hbl := hbl.alloc hbl.size (.cells #[.string ⟨#[48]⟩, .string ⟨#[50]⟩, .string ⟨#[50]⟩, .string ⟨#[52]⟩] 9)
  go_wp2_with fail
  refine ((same_lit _ _ _ 4 _ _ [0, 2, 2, 4] _ 4 rfl rl ra1 (lit4 0 2 2 4 _ _ _ _ dec_zero dec_two dec_two dec_four) (few4 _ _ _ _ (by decide) (by decide) (by decide) (by decide)) (by omega))).mono ?_
  rintro e wn ⟨rfl, hbn⟩
  replace rh := rowBelow rh hbn
  replace rc := rowBelow rc hbn
  replace ra := rowBelow ra hbn
  replace rn := rowBelow rn hbn
  replace x20 := rowBelow x20 hbn
  replace hbl := Cs.Below.trans' hbl hbn hbl.size
  clear hbn
  clear ra1
  have ra1 := arrNew wn #[.string ⟨#[48]⟩, .string ⟨#[54]⟩, .string ⟨#[54]⟩, .string ⟨#[52]⟩] 9 _ 4 rfl rfl
  replace rh := rh.alloc (.cells #[.string ⟨#[48]⟩, .string ⟨#[54]⟩, .string ⟨#[54]⟩, .string ⟨#[52]⟩] 9)
  replace rc := rc.alloc (.cells #[.string ⟨#[48]⟩, .string ⟨#[54]⟩, .string ⟨#[54]⟩, .string ⟨#[52]⟩] 9)
  replace ra := ra.alloc (.cells #[.string ⟨#[48]⟩, .string ⟨#[54]⟩, .string ⟨#[54]⟩, .string ⟨#[52]⟩] 9)
  replace rn := rn.alloc (.cells #[.string ⟨#[48]⟩, .string ⟨#[54]⟩, .string ⟨#[54]⟩, .string ⟨#[52]⟩] 9)
  replace x20 := x20.alloc (.cells #[.string ⟨#[48]⟩, .string ⟨#[54]⟩, .string ⟨#[54]⟩, .string ⟨#[52]⟩] 9)
  replace hbl := hbl.alloc hbl.size (.cells #[.string ⟨#[48]⟩, .string ⟨#[54]⟩, .string ⟨#[54]⟩, .string ⟨#[52]⟩] 9)
  go_wp2_with fail
  refine ((same_lit _ _ _ 4 _ _ [0, 6, 6, 4] _ 4 rfl rh ra1 (lit4 0 6 6 4 _ _ _ _ dec_zero dec_six dec_six dec_four) (few4 _ _ _ _ (by decide) (by decide) (by decide) (by decide)) (by omega))).mono ?_
  rintro e wn ⟨rfl, hbn⟩
  replace rc := rowBelow rc hbn
  replace ra := rowBelow ra hbn
  replace rn := rowBelow rn hbn
  replace x20 := rowBelow x20 hbn
  replace hbl := Cs.Below.trans' hbl hbn hbl.size
  clear hbn
  clear ra1
  have ra1 := arrNew wn #[.string ⟨#[48]⟩, .string ⟨#[50]⟩, .string ⟨#[52]⟩, .string ⟨#[50]⟩] 9 _ 4 rfl rfl
  replace rc := rc.alloc (.cells #[.string ⟨#[48]⟩, .string ⟨#[50]⟩, .string ⟨#[52]⟩, .string ⟨#[50]⟩] 9)
  replace ra := ra.alloc (.cells #[.string ⟨#[48]⟩, .string ⟨#[50]⟩, .string ⟨#[52]⟩, .string ⟨#[50]⟩] 9)
  replace rn := rn.alloc (.cells #[.string ⟨#[48]⟩, .string ⟨#[50]⟩, .string ⟨#[52]⟩, .string ⟨#[50]⟩] 9)
  replace x20 := x20.alloc (.cells #[.string ⟨#[48]⟩, .string ⟨#[50]⟩, .string ⟨#[52]⟩, .string ⟨#[50]⟩] 9)
  replace hbl := hbl.alloc hbl.size (.cells #[.string ⟨#[48]⟩, .string ⟨#[50]⟩, .string ⟨#[52]⟩, .string ⟨#[50]⟩] 9)
  go_wp2_with fail
  refine ((same_lit _ _ _ 4 _ _ [0, 2, 4, 2] _ 4 rfl rc ra1 (lit4 0 2 4 2 _ _ _ _ dec_zero dec_two dec_four dec_two) (few4 _ _ _ _ (by decide) (by decide) (by decide) (by decide)) (by omega))).mono ?_
  rintro e wn ⟨rfl, hbn⟩
  replace ra := rowBelow ra hbn
  replace rn := rowBelow rn hbn
  replace x20 := rowBelow x20 hbn
  replace hbl := Cs.Below.trans' hbl hbn hbl.size
  clear hbn
  clear ra1
  have ra' := ra.drew
  have rn' := rn.drew
  have x20' := x20.drew
  have hbl' := belowDrewN hbl 1
  change Below _ _ (World.drew _) at hbl'
  have c20 := boxCell x20'
  go_wp2_with fail
  go_region_held3 (fun w' => w'.cell? ⟨wbig.heap.size, 0, none⟩ = some (.string (natB V))) (first | exact c20 | exact boxCell ((x20.alloc _).drew) | exact boxCell (x20'.alloc _) | go_keep)
    (first
      | (go_simp
         go_at_call_of 17 (Value.slice (some ⟨ga, 0, none⟩) 4 4)
         have la := (arrNew wn #[.string ⟨#[49]⟩, .string ⟨#[51]⟩, .string ⟨#[51]⟩, .string ⟨#[49]⟩] 9 _ 4 rfl rfl).drew
         have hbl9 := belowDrewN (hbl.alloc hbl.size (.cells #[.string ⟨#[49]⟩, .string ⟨#[51]⟩, .string ⟨#[51]⟩, .string ⟨#[49]⟩] 9)) 1
         (with_reducible refine (same_lit _ _ _ 4 _ _ [1, 3, 3, 1] _ 4 rfl ((ra.alloc _).drew) la (lit4 1 3 3 1 _ _ _ _ dec_1' dec_three dec_three dec_1') (few4 _ _ _ _ (by decide) (by decide) (by decide) (by decide)) (by omega)).mono ?_)
         rintro e' w9 ⟨rfl, hb9⟩
         have rn' := rowBelow ((rn.alloc (.cells #[.string ⟨#[49]⟩, .string ⟨#[51]⟩, .string ⟨#[51]⟩, .string ⟨#[49]⟩] 9)).drew) hb9
         have x20' := rowBelow ((x20.alloc (.cells #[.string ⟨#[49]⟩, .string ⟨#[51]⟩, .string ⟨#[51]⟩, .string ⟨#[49]⟩] 9)).drew) hb9
         have hbl' := Cs.Below.trans' hbl9 hb9 hbl9.size
         have c20 := boxCell x20')
      | (go_simp
         go_at_call_of 17 (Value.slice (some ⟨gn, 0, none⟩) 1 1)
         have la := arrNew w9 #[.string ⟨#[49]⟩] 9 _ 1 rfl rfl
         (with_reducible refine (same_lit _ _ _ 1 _ _ [1] _ 1 rfl (rn'.alloc _) la (lit1 1 _ dec_1') (few1 _ (by decide)) (by omega)).mono ?_)
         rintro e' w9 ⟨rfl, hb9⟩
         replace x20' := rowBelow (x20'.alloc _) hb9
         have hbl9 := hbl'.alloc hbl'.size (.cells #[.string ⟨#[49]⟩] 9)
         replace hbl' := Cs.Below.trans' hbl9 hb9 hbl9.size
         have c20 := boxCell x20')
      | (go_simp
         go_at_call 24
         (with_reducible refine (HPW.out _).mono ?_)
         rintro e' w9 ⟨rfl, hb9⟩
         replace x20' := rowBelow x20' hb9
         replace hbl' := Cs.Below.trans' hbl' hb9 hbl'.size
         have c20 := boxCell x20')
      | (go_simp
         go_at_call 20
         (with_reducible refine (HCM.out _).mono ?_)
         rintro e' w9 ⟨rfl, hb9⟩
         replace x20' := rowBelow x20' hb9
         replace hbl' := Cs.Below.trans' hbl' hb9 hbl'.size
         have c20 := boxCell x20')
      | (go_simp
         go_at_call 11
         (with_reducible refine (HWK.out _ (hT.below hbl')).mono ?_)
         rintro e' w9 ⟨rfl, hb9⟩
         replace x20' := rowBelow x20' hb9
         replace hbl' := Cs.Below.trans' hbl' hb9 hbl'.size
         have c20 := boxCell x20'))
  all_goals
    try go_wp2
    go_ret
    exact ⟨rfl, hbl'⟩
end Go.Proofs.YtcgejdlfiemjaaaDoor
