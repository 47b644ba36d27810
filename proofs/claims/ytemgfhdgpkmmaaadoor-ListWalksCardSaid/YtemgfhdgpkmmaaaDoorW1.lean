/- The law's own functions: lit, sample. -/
import Derived.Test.YtemgfhdgpkmmaaaDoorB1
import Derived.Test.YtemgfhdgpkmmaaaDoorN4
set_option linter.unusedSimpArgs false
set_option linter.unusedVariables false
namespace Cs
open Go Go.RowKit
/-- The cells of a row that lies there written out. -/
def arrF (a : Array Value) (i : Nat) : Value := a.getD i undef
theorem arrNew (w : World) (a : Array Value) (t : TypeId) (g n : Nat) (hg : w.heap.size = g) (hn : a.size = n) : (w.alloc (.cells a t)).rowIs g t n (arrF a) := by
  subst hg; subst hn
  exact World.rowIs_alloc w a t (arrF a) fun i hi => by unfold arrF; rw [Array.getD_eq_getD_getElem?, Array.getElem?_eq_getElem hi]; rfl
def sampN : Nt := ⟨3, [⟨2, -1, []⟩, ⟨2, 2, []⟩, ⟨3, 0, [0, 1]⟩, ⟨2, 1, []⟩, ⟨2, 3, []⟩, ⟨3, 0, [3, 4]⟩, ⟨4, 0, [2, 5]⟩]⟩
def sampNA (b2 b5 b6 : Nat) : Array Value := #[.int .i64 2, .int .i64 (-1), .slice none 0 0, .int .i64 2, .int .i64 2, .slice none 0 0, .int .i64 3, .int .i64 0, .slice (some ⟨b2, 0, none⟩) 2 2, .int .i64 2, .int .i64 1, .slice none 0 0, .int .i64 2, .int .i64 3, .slice none 0 0, .int .i64 3, .int .i64 0, .slice (some ⟨b5, 0, none⟩) 2 2, .int .i64 4, .int .i64 0, .slice (some ⟨b6, 0, none⟩) 2 2]
theorem sampN_at {w : World} {B g b2 b5 b6 : Nat} {t : TypeId} {s : TypeId} (hg : g < B) (h2 : b2 < B) (r2 : w.rowIs b2 s 2 (arrF #[.int .i64 0, .int .i64 1])) (h5 : b5 < B) (r5 : w.rowIs b5 s 2 (arrF #[.int .i64 3, .int .i64 4])) (h6 : b6 < B) (r6 : w.rowIs b6 s 2 (arrF #[.int .i64 2, .int .i64 5])) (hr : w.rowIs g t 21 (arrF (sampNA b2 b5 b6))) : NtAt w B (some ⟨g, 0, none⟩) sampN.l := fun _ => by
  refine ⟨g, 0, rfl, hg, fun i hi => ?_⟩
  match i, hi with
  | 0, _ => exact ⟨hr.cell (i := 0) (by decide), hr.cell (i := 1) (by decide), ⟨none, 0, hr.cell (i := 2) (by decide), Rd.zero _ _ _ _⟩, (show r64 (2) by unfold r64; decide), (show r64 (-1) by unfold r64; decide), (show ∀ i ∈ ([] : List Int), r64 i by unfold r64; decide), (show ([] : List Int).length ≤ 140737488355328 by decide)⟩
  | 1, _ => exact ⟨hr.cell (i := 3) (by decide), hr.cell (i := 4) (by decide), ⟨none, 0, hr.cell (i := 5) (by decide), Rd.zero _ _ _ _⟩, (show r64 (2) by unfold r64; decide), (show r64 (2) by unfold r64; decide), (show ∀ i ∈ ([] : List Int), r64 i by unfold r64; decide), (show ([] : List Int).length ≤ 140737488355328 by decide)⟩
  | 2, _ => exact ⟨hr.cell (i := 6) (by decide), hr.cell (i := 7) (by decide), ⟨some ⟨b2, 0, none⟩, 2, hr.cell (i := 8) (by decide), Rd.of_row (r2.congr fun j hj => by
      match j, hj with
      | 0, _ => rfl
      | 1, _ => rfl
      ) (Nat.le_refl _) h2⟩, (show r64 (3) by unfold r64; decide), (show r64 (0) by unfold r64; decide), (show ∀ i ∈ ([0, 1] : List Int), r64 i by unfold r64; decide), (show ([0, 1] : List Int).length ≤ 140737488355328 by decide)⟩
  | 3, _ => exact ⟨hr.cell (i := 9) (by decide), hr.cell (i := 10) (by decide), ⟨none, 0, hr.cell (i := 11) (by decide), Rd.zero _ _ _ _⟩, (show r64 (2) by unfold r64; decide), (show r64 (1) by unfold r64; decide), (show ∀ i ∈ ([] : List Int), r64 i by unfold r64; decide), (show ([] : List Int).length ≤ 140737488355328 by decide)⟩
  | 4, _ => exact ⟨hr.cell (i := 12) (by decide), hr.cell (i := 13) (by decide), ⟨none, 0, hr.cell (i := 14) (by decide), Rd.zero _ _ _ _⟩, (show r64 (2) by unfold r64; decide), (show r64 (3) by unfold r64; decide), (show ∀ i ∈ ([] : List Int), r64 i by unfold r64; decide), (show ([] : List Int).length ≤ 140737488355328 by decide)⟩
  | 5, _ => exact ⟨hr.cell (i := 15) (by decide), hr.cell (i := 16) (by decide), ⟨some ⟨b5, 0, none⟩, 2, hr.cell (i := 17) (by decide), Rd.of_row (r5.congr fun j hj => by
      match j, hj with
      | 0, _ => rfl
      | 1, _ => rfl
      ) (Nat.le_refl _) h5⟩, (show r64 (3) by unfold r64; decide), (show r64 (0) by unfold r64; decide), (show ∀ i ∈ ([3, 4] : List Int), r64 i by unfold r64; decide), (show ([3, 4] : List Int).length ≤ 140737488355328 by decide)⟩
  | 6, _ => exact ⟨hr.cell (i := 18) (by decide), hr.cell (i := 19) (by decide), ⟨some ⟨b6, 0, none⟩, 2, hr.cell (i := 20) (by decide), Rd.of_row (r6.congr fun j hj => by
      match j, hj with
      | 0, _ => rfl
      | 1, _ => rfl
      ) (Nat.le_refl _) h6⟩, (show r64 (4) by unfold r64; decide), (show r64 (0) by unfold r64; decide), (show ∀ i ∈ ([2, 5] : List Int), r64 i by unfold r64; decide), (show ([2, 5] : List Int).length ≤ 140737488355328 by decide)⟩
end Cs
open Go Go.RowKit Cs
namespace Go.Proofs.YtemgfhdgpkmmaaaDoor
theorem size_net : (Tryd.prog.info? 24).map (·.size) = some 2 := by kernel_rfl
theorem size_node : (Tryd.prog.info? 41).map (·.size) = some 3 := by kernel_rfl
set_option maxRecDepth 100000 in
theorem lit_any (w : World) (l : Int) : Calls Tryd.prog 26 #[.int .i64 l] w fun e w' => e = .returned (.agg #[.int .i64 2, .int .i64 l, .slice none 0 0]) ∧ Below w.heap.size w w' := by
  have hr := arrNew w #[.int .i64 2, .int .i64 l, .slice none 0 0] 41 w.heap.size 3 rfl rfl
  have HR := Lib.hid hr
  clear hr
  go_enter Tryd.func26, Tryd.ntmps26
  go_wp2
  exact ret_row rfl w.heap.size 41 3 _ rfl HR.out _ Tryd.underlying41 rfl size_node rfl ⟨rfl, (Below.refl _ _).alloc (Nat.le_refl _) _⟩
set_option maxRecDepth 100000 in
set_option maxHeartbeats 400000 in
theorem sample_any (w : World) : Calls Tryd.prog 25 #[] w fun e w' => ∃ g, e = .returned (ntV sampN (some ⟨g, 0, none⟩) 7) ∧ NtAt w' w'.heap.size (some ⟨g, 0, none⟩) sampN.l ∧ Below w.heap.size w w' := by
  have hr := arrNew w #[.int .i64 0, .slice none 0 0] 24 w.heap.size 2 rfl rfl
  have hb : Below w.heap.size w (w.alloc (.cells #[.int .i64 0, .slice none 0 0] 24)) := (Below.refl _ _).alloc (Nat.le_refl _) _
  go_enter Tryd.func25, Tryd.ntmps25
  go_wp2_with fail
  refine (lit_any _ _).mono ?_
  rintro e w1 ⟨rfl, hb1⟩
  replace hr := rowBelow hr hb1
  replace hb := Cs.Below.trans' hb hb1 hb.size
  go_wp2_with fail
  refine (lit_any _ _).mono ?_
  rintro e w2 ⟨rfl, hb2⟩
  replace hr := rowBelow hr hb2
  replace hb := Cs.Below.trans' hb hb2 hb.size
  have hs3 := hr.lt
  have r2 := arrNew w2 #[.int .i64 0, .int .i64 1] 3 w2.heap.size 2 rfl rfl
  replace hr := hr.alloc (.cells #[.int .i64 0, .int .i64 1] 3)
  have hs2 := hb.size
  replace hb := hb.alloc hb.size (.cells #[.int .i64 0, .int .i64 1] 3)
  go_wp2_with fail
  refine (lit_any _ _).mono ?_
  rintro e w3 ⟨rfl, hb3⟩
  replace hr := rowBelow hr hb3
  replace r2 := rowBelow r2 hb3
  replace hb := Cs.Below.trans' hb hb3 hb.size
  go_wp2_with fail
  refine (lit_any _ _).mono ?_
  rintro e w4 ⟨rfl, hb4⟩
  replace hr := rowBelow hr hb4
  replace r2 := rowBelow r2 hb4
  replace hb := Cs.Below.trans' hb hb4 hb.size
  have hlt2 := r2.lt
  have hlr0 := hr.lt
  obtain ⟨v4, hv4⟩ : ∃ v4, (w4.setCell ⟨w.heap.size, 0, none⟩ (.int .i64 3)).setCell ⟨w.heap.size, 1, none⟩ (.slice (some ⟨w4.heap.size + 1 + 1, 0, none⟩) 7 7) = v4 := ⟨_, rfl⟩
  have hvz : w4.heap.size = v4.heap.size := by rw [← hv4, size_setCell, size_setCell]
  have hn2 : w2.heap.size ≠ w.heap.size := by omega
  have p2 : v4.rowIs w2.heap.size 3 2 (arrF #[.int .i64 0, .int .i64 1]) := by rw [← hv4]; exact (r2.setOther hn2 _).setOther hn2 _
  have pr : v4.rowIs w.heap.size 24 2 (arrF #[.int .i64 3, .slice (some ⟨w4.heap.size + 1 + 1, 0, none⟩) 7 7]) := by
    rw [← hv4]
    exact ((hr.set 0 _).set 1 _).congr fun i hi => by
      have : i = 0 ∨ i = 1 := by omega
      rcases this with rfl | rfl <;> rfl
  have hbv : Below w.heap.size w v4 := by rw [← hv4]; exact (hb.setCell (Nat.le_refl _) _).setCell (Nat.le_refl _) _
  have HV4 := Lib.hid hv4
  clear hv4
  have r5 := ((arrNew v4 #[.int .i64 3, .int .i64 4] 3 v4.heap.size 2 rfl rfl).alloc (.cells #[.int .i64 2, .int .i64 5] 3)).alloc (.cells (sampNA w2.heap.size v4.heap.size (v4.heap.size + 1)) 41)
  have r6 := (arrNew (v4.alloc (.cells #[.int .i64 3, .int .i64 4] 3)) #[.int .i64 2, .int .i64 5] 3 (v4.heap.size + 1) 2 (by simp) rfl).alloc (.cells (sampNA w2.heap.size v4.heap.size (v4.heap.size + 1)) 41)
  have r7 := arrNew ((v4.alloc (.cells #[.int .i64 3, .int .i64 4] 3)).alloc (.cells #[.int .i64 2, .int .i64 5] 3)) (sampNA w2.heap.size v4.heap.size (v4.heap.size + 1)) 41 (v4.heap.size + 1 + 1) 21 (by simp) rfl
  have r2' := ((p2.alloc (.cells #[.int .i64 3, .int .i64 4] 3)).alloc (.cells #[.int .i64 2, .int .i64 5] 3)).alloc (.cells (sampNA w2.heap.size v4.heap.size (v4.heap.size + 1)) 41)
  have hnt := sampN_at (B := v4.heap.size + 1 + 1 + 1) (by omega) (by have := p2.lt; omega) r2' (by omega) r5 (by omega) r6 r7
  have HPR := Lib.hid (((pr.alloc (.cells #[.int .i64 3, .int .i64 4] 3)).alloc (.cells #[.int .i64 2, .int .i64 5] 3)).alloc (.cells (sampNA w2.heap.size v4.heap.size (v4.heap.size + 1)) 41))
  have HBV := Lib.hid (((hbv.alloc hbv.size (.cells #[.int .i64 3, .int .i64 4] 3)).alloc (by simp; have := hbv.size; omega) (.cells #[.int .i64 2, .int .i64 5] 3)).alloc (by simp; have := hbv.size; omega) (.cells (sampNA w2.heap.size v4.heap.size (v4.heap.size + 1)) 41))
  have HVZ := Lib.hid hvz
  have hlr := hr.lt
  have hlr2 : w.heap.size < w4.heap.size + 1 := by omega
  have hlr3 : w.heap.size < w4.heap.size + 1 + 1 := by omega
  have f0 := hr.frozen 0
  have f1 := hr.frozen 1
  have y0 : w4.cell? ⟨w.heap.size, 0, none⟩ = some (.int .i64 0) := hr.cell (i := 0) (by omega)
  have y1 : w4.cell? ⟨w.heap.size, 1, none⟩ = some (.slice none 0 0) := hr.cell (i := 1) (by omega)
  have HNT := Lib.hid hnt
  have HR := Lib.hid hr
  have HB := Lib.hid hb
  clear hnt r5 r6 r7 r2 r2' hr hb hb1 hb2 hb3 hb4 pr p2 hbv hvz
  go_wp2
  refine ret_row rfl w.heap.size 24 2 (arrF #[.int .i64 3, .slice (some ⟨w4.heap.size + 1 + 1, 0, none⟩) 7 7]) rfl ?_ _ Tryd.underlying24 rfl size_net rfl ⟨w4.heap.size + 1 + 1, rfl, ?_, ?_⟩
  · rw [HV4.out, HVZ.out]
    have h := HPR.out
    rw [HVZ.out] at h
    exact h
  · rw [HV4.out, HVZ.out]
    exact HNT.out.more (by simp)
  · rw [HV4.out, HVZ.out]
    exact HBV.out
end Go.Proofs.YtemgfhdgpkmmaaaDoor
