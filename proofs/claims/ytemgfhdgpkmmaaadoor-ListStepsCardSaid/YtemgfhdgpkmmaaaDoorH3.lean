/- The walks of Next and Steps. -/
import Derived.Test.YtemgfhdgpkmmaaaDoorH2
set_option linter.unusedSimpArgs false
set_option linter.unusedVariables false
open Go Go.RowKit Cs
namespace Go.Proofs.YtemgfhdgpkmmaaaDoor
/-- How many nodes are visited. -/
def stepN (N : Nt) (s : Wk) (k : Int) : Int := if s.over then k else if (s.next N).ok then (if s.begun then 2 * (N.l.length : Int) else (N.l.length : Int)) else 0
/-- While Next runs: the walk's row (with any cells), its net, the result's cells. -/
structure NxR (w0 : World) (N : Nt) (D g gl q : Nat) (A : Option Addr) (c : Nat) (f : Nat → Value) (w : World) : Prop where
  row : w.rowIs g 67 6 f
  net : NtK w D g A N.l
  ls : LsAt w N A c gl q
  r : w.rowIs w0.heap.size 27 2 (setF 0)
  lo1 : D ≤ gl ∧ D ≤ q ∧ D ≤ g
  hi1 : gl < g ∧ q < g ∧ g < w0.heap.size
  grown : w0.grownBy w (some g)
section
variable {w0 w w' : World} {N : Nt} {D g gl q : Nat} {A : Option Addr} {c : Nat} {f : Nat → Value}
theorem NxR.below (h : NxR w0 N D g gl q A c f w) (hb : Below w.heap.size w w') : NxR w0 N D g gl q A c f w' :=
  ⟨rowBelow h.row hb, h.net.below (hb.mono (Nat.le_of_lt h.row.lt)), h.ls.below hb, rowBelow h.r hb, h.lo1, h.hi1, only_below h.grown hb⟩
theorem NxR.drew (h : NxR w0 N D g gl q A c f w) : NxR w0 N D g gl q A c f w.drew := h.below (belowDrewN (Below.refl _ _) 1)
theorem NxR.alloc (h : NxR w0 N D g gl q A c f w) (o : Obj) : NxR w0 N D g gl q A c f (w.alloc o) := h.below ((Below.refl _ _).alloc (Nat.le_refl _) _)
theorem NxR.set (h : NxR w0 N D g gl q A c f w) (i : Nat) (v : Value) : NxR w0 N D g gl q A c (fun j => if j = i then v else f j) (w.setCell ⟨g, i, none⟩ v) :=
  ⟨h.row.set i v, h.net.below ((Below.refl g w).setCell (Nat.le_refl g) _), ⟨h.ls.row.setOther (Nat.ne_of_lt h.hi1.1) _, h.ls.sets.setOther (Nat.ne_of_lt h.hi1.2.1) _⟩, h.r.setOther (Nat.ne_of_gt h.hi1.2.2) _, h.lo1, h.hi1, only_setCell h.grown (.inl rfl) _⟩
theorem NxR.congr (h : NxR w0 N D g gl q A c f w) {f' : Nat → Value} (e : ∀ i, i < 6 → f i = f' i) : NxR w0 N D g gl q A c f' w := ⟨h.row.congr e, h.net, h.ls, h.r, h.lo1, h.hi1, h.grown⟩
theorem NxR.cells (h : NxR w0 N D g gl q A c f w) : w.cell? ⟨g, 0, none⟩ = some (f 0) ∧ w.cell? ⟨g, 1, none⟩ = some (f 1) ∧ w.cell? ⟨g, 2, none⟩ = some (f 2) ∧ w.cell? ⟨g, 3, none⟩ = some (f 3) ∧ w.cell? ⟨g, 4, none⟩ = some (f 4) ∧ w.cell? ⟨g, 5, none⟩ = some (f 5) :=
  ⟨h.row.cell (by decide), h.row.cell (by decide), h.row.cell (by decide), h.row.cell (by decide), h.row.cell (by decide), h.row.cell (by decide)⟩
theorem NxR.frz (h : NxR w0 N D g gl q A c f w) : w.frozen? ⟨g, 1, none⟩ = false ∧ w.frozen? ⟨g, 2, none⟩ = false ∧ w.frozen? ⟨g, 3, none⟩ = false ∧ w.frozen? ⟨g, 4, none⟩ = false ∧ w.frozen? ⟨g, 5, none⟩ = false :=
  ⟨h.row.frozen 1, h.row.frozen 2, h.row.frozen 3, h.row.frozen 4, h.row.frozen 5⟩
theorem NxR.more (h : NxR w0 N D g gl q A c f w) : w.cell? ⟨gl, 1, none⟩ = some (.slice A N.l.length c) ∧ w.cell? ⟨w0.heap.size, 0, none⟩ = some (.int .u64 (lo 0 : Int)) ∧ w.cell? ⟨w0.heap.size, 1, none⟩ = some (.int .u64 (hi 0 : Int)) ∧ w.frozen? ⟨w0.heap.size, 0, none⟩ = false ∧ w.frozen? ⟨w0.heap.size, 1, none⟩ = false :=
  ⟨h.ls.row.cell (by decide), (setCells h.r).1, (setCells h.r).2.1, h.r.frozen 0, h.r.frozen 1⟩
theorem NxR.lies (h : NxR w0 N D g gl q A c f w) {s : Wk} {k : Int} (e : ∀ i, i < 6 → f i = wkF gl s k i) : WkLies w N D g gl q A c s k := ⟨h.row.congr e, h.net, h.ls, h.lo1, ⟨h.hi1.1, h.hi1.2.1⟩⟩
theorem NxR.nt (h : NxR w0 N D g gl q A c f w) : NtAt w w.heap.size A N.l := h.net.nt.more (Nat.le_of_lt h.row.lt)
theorem NxR.tab (h : NxR w0 N D g gl q A c f w) (hT : Tab w0) (hg : 1 < g) : Tab w := fun j hj => (cellEq (w := w0) (w' := w) (h.grown.block _ hT.lt (by intro e; injection e with e; exact absurd e (Nat.ne_of_lt hg)))).trans (hT j hj)
end
theorem WkLies.start {w : World} {N : Nt} {D g gl q : Nat} {A : Option Addr} {c : Nat} {s : Wk} {k : Int} (h : WkLies w N D g gl q A c s k) : NxR w N D g gl q A c (wkF gl s k) (w.alloc (.cells #[.int .u64 0, .int .u64 0] 27)) := by
  have hb : Below w.heap.size w (w.alloc (.cells #[.int .u64 0, .int .u64 0] 27)) := (Below.refl _ _).alloc (Nat.le_refl _) _
  exact ⟨h.row.alloc _, h.net.below (hb.mono (Nat.le_of_lt h.row.lt)), h.ls.below hb, setZero _ _ _ rfl, h.lo1, ⟨h.hi1.1, h.hi1.2, h.row.lt⟩, only_alloc ⟨rfl, rfl, rfl, Nat.le_refl _, fun _ _ _ => rfl⟩ _⟩
theorem NxR.fin {w0 w : World} {N : Nt} {D g gl q : Nat} {A : Option Addr} {c : Nat} {f : Nat → Value} (h : NxR w0 N D g gl q A c f w) {s : Wk} {k : Int} (e : ∀ i, i < 6 → f i = wkF gl s k i) (u v : Value) :
    WkLies ((w.setCell ⟨w0.heap.size, 0, none⟩ u).setCell ⟨w0.heap.size, 1, none⟩ v) N D g gl q A c s k ∧ w0.grownBy ((w.setCell ⟨w0.heap.size, 0, none⟩ u).setCell ⟨w0.heap.size, 1, none⟩ v) (some g) := by
  have hl := h.lies e
  have h1 := h.hi1.1
  have h2 := h.hi1.2.1
  have h3 := h.hi1.2.2
  have hb : Below w0.heap.size w ((w.setCell ⟨w0.heap.size, 0, none⟩ u).setCell ⟨w0.heap.size, 1, none⟩ v) := ((Below.refl w0.heap.size w).setCell (Nat.le_refl w0.heap.size) _).setCell (Nat.le_refl w0.heap.size) _
  exact ⟨⟨rowBelow' hl.row hb h3, hl.net.below (hb.mono (Nat.le_of_lt h3)), ⟨rowBelow' hl.ls.row hb (by omega), rowBelow' hl.ls.sets hb (by omega)⟩, hl.lo1, hl.hi1⟩, only_setCell (only_setCell h.grown (.inr (Nat.le_refl _)) _) (.inr (Nat.le_refl _)) _⟩
theorem six {P : Nat → Prop} (h0 : P 0) (h1 : P 1) (h2 : P 2) (h3 : P 3) (h4 : P 4) (h5 : P 5) : ∀ i, i < 6 → P i := fun i hi => by
  have : i = 0 ∨ i = 1 ∨ i = 2 ∨ i = 3 ∨ i = 4 ∨ i = 5 := by omega
  rcases this with rfl | rfl | rfl | rfl | rfl | rfl <;> assumption
def NextP (w : World) (N : Nt) (D g gl q : Nat) (A : Option Addr) (c : Nat) (s : Wk) (k : Int) (e : Ending) (w' : World) : Prop :=
  e = .returned (.tuple #[setV (s.next N).set, .bool (s.next N).ok]) ∧ WkLies w' N D g gl q A c (s.step N) (stepN N s k) ∧ w.grownBy w' (some g)
/-- No walk. -/
theorem next_nil (w : World) : Calls Tryd.prog 31 #[.pointer none] w fun e w' => e = .returned (.tuple #[setV 0, .bool false]) ∧ Below w.heap.size w w' := by
  have hb : Below w.heap.size w (w.alloc (.cells #[.int .u64 0, .int .u64 0] 27)) := (Below.refl _ _).alloc (Nat.le_refl _) _
  have hr := setZero w 27 w.heap.size rfl
  obtain ⟨z1, z2, f1, f2⟩ := setCells hr
  go_enter Tryd.func31, Tryd.ntmps31
  go_wp2
  exact ret_set2 rfl 0 rfl rfl hr rfl rfl rfl ⟨rfl, hb⟩
theorem steps_nil (w : World) : Calls Tryd.prog 32 #[.pointer none] w fun e w' => e = .returned (.int .i64 0) ∧ w = w' := by
  go_enter Tryd.func32, Tryd.ntmps32
  go_wp2
  go_ret
  exact ⟨rfl, rfl⟩
/-- A walk that New did not make. -/
theorem next_new (w : World) (g : Nat) (hr : w.rowIs g 67 6 fun i => if i = 0 then .pointer none else if i = 1 then .int .u64 0 else if i = 2 then .int .u64 0 else if i = 3 then .bool false else if i = 4 then .bool false else .int .i64 0) :
    Calls Tryd.prog 31 #[.pointer (some ⟨g, 0, none⟩)] w fun e w' => e = .returned (.tuple #[setV 0, .bool false]) ∧ Below w.heap.size w w' := by
  have hb : Below w.heap.size w (w.alloc (.cells #[.int .u64 0, .int .u64 0] 27)) := (Below.refl _ _).alloc (Nat.le_refl _) _
  have hr0 := setZero w 27 w.heap.size rfl
  obtain ⟨z1, z2, f1, f2⟩ := setCells hr0
  have c0 : (w.alloc (.cells #[.int .u64 0, .int .u64 0] 27)).cell? ⟨g, 0, none⟩ = some (.pointer none) := (hr.alloc _).cell (i := 0) (by decide)
  go_enter Tryd.func31, Tryd.ntmps31
  go_wp2
  exact ret_set2 rfl 0 rfl rfl hr0 rfl rfl rfl ⟨rfl, hb⟩
theorem steps_any (w : World) (g : Nat) (k : Int) (hc : w.cell? ⟨g, 5, none⟩ = some (.int .i64 k)) : Calls Tryd.prog 32 #[.pointer (some ⟨g, 0, none⟩)] w fun e w' => e = .returned (.int .i64 k) ∧ w = w' := by
  go_enter Tryd.func32, Tryd.ntmps32
  go_wp2
  go_ret
  exact ⟨rfl, rfl⟩
set_option maxRecDepth 100000 in
set_option maxHeartbeats 1000000 in
theorem next_any (w : World) (N : Nt) (D g gl q : Nat) (A : Option Addr) (c : Nat) (s : Wk) (k : Int) (h : WkLies w N D g gl q A c s k) (hv : vld N = true) (hd : dcmp N = true) (hT : Tab w) (hg : 1 < g) (hs : IsSet s.last) :
    Calls Tryd.prog 31 #[.pointer (some ⟨g, 0, none⟩)] w (NextP w N D g gl q A c s k) := by
  have hq := h.start
  obtain ⟨hn0, hn1, hl0, hl1⟩ := vld_bounds hv
  have haf : ∀ W f, NxR w N D g gl q A c f W → Calls Tryd.prog 38 #[.pointer (some ⟨gl, 0, none⟩), setV s.last] W fun e w' => e = .returned (.tuple #[setV (afterN N s.last).set, .bool (afterN N s.last).ok]) ∧ Below W.heap.size W w' := fun W f hq => after_any W N A c gl q s.last hq.ls hq.nt hv hd (hq.tab hT hg)
  have hle : ∀ W f, NxR w N D g gl q A c f W → Calls Tryd.prog 63 #[.pointer (some ⟨gl, 0, none⟩), .agg #[.int .u64 0, .int .u64 0], .agg #[.int .u64 0, .int .u64 0]] W fun e w' => e = .returned (.tuple #[setV (leastN N 0 0).set, .bool (leastN N 0 0).ok]) ∧ Below W.heap.size W w' := fun W f hq => least_any W N A c gl q 0 0 hq.ls hq.nt hv (hq.tab hT hg)
  have HAF := Lib.hid haf
  have HLE := Lib.hid hle
  clear haf hle hT
  obtain ⟨last, bg, ov⟩ := s
  cases ov
  · cases bg
    · have hnx : Wk.next N ⟨last, false, false⟩ = leastN N 0 0 := rfl
      have hst : Wk.step N ⟨last, false, false⟩ = ⟨(leastN N 0 0).set, true, !(leastN N 0 0).ok⟩ := rfl
      have hsp : stepN N ⟨last, false, false⟩ k = if (leastN N 0 0).ok then (N.l.length : Int) else 0 := rfl
      unfold NextP
      rw [hnx, hst, hsp]
      obtain ⟨P, hP⟩ : ∃ P, leastN N 0 0 = P := ⟨_, rfl⟩
      rw [hP] at HLE ⊢
      obtain ⟨ps, po⟩ := P
      simp only at HLE
      obtain ⟨c0, c1, c2, c3, c4, c5⟩ := hq.cells
      obtain ⟨f1, f2, f3, f4, f5⟩ := hq.frz
      obtain ⟨m1, z1, z2, y1, y2⟩ := hq.more
      simp only [wkF] at c0 c1 c2 c3 c4 c5
      clear hnx hst hsp hP
      go_enter Tryd.func31, Tryd.ntmps31
      go_wp2_with fail
      refine (HLE.out _ _ (hq.set 5 _)).mono ?_
      rintro e w5 ⟨rfl, hb5⟩
      replace hq := (hq.set 5 _).below hb5
      have hz2 := hq.hi1.2.2
      clear c0 c1 c2 c3 c4 c5 f1 f2 f3 f4 f5 m1 z1 z2 y1 y2
      obtain ⟨c0, c1, c2, c3, c4, c5⟩ := hq.cells
      obtain ⟨f1, f2, f3, f4, f5⟩ := hq.frz
      obtain ⟨m1, z1, z2, y1, y2⟩ := hq.more
      simp [wkF] at c0 c1 c2 c3 c4 c5
      cases po
      · go_wp2
        have hq2 := ((((hq.set 1 (.int .u64 (lo ps : Int))).set 2 (.int .u64 (hi ps : Int))).set 3 (.bool true)).set 4 (.bool true)).set 5 (.int .i64 0)
        exact ret_set2 rfl ps rfl rfl (setPut hq2.r ps) rfl rfl rfl ⟨rfl, hq2.fin (six rfl rfl rfl rfl rfl rfl) _ _⟩
      · go_wp2
        have hq2 := (((hq.set 1 (.int .u64 (lo ps : Int))).set 2 (.int .u64 (hi ps : Int))).set 3 (.bool true)).set 4 (.bool false)
        exact ret_set2 rfl ps rfl rfl (setPut hq2.r ps) rfl rfl rfl ⟨rfl, hq2.fin (six rfl rfl rfl rfl rfl rfl) _ _⟩
    · have hnx : Wk.next N ⟨last, true, false⟩ = afterN N last := rfl
      have hst : Wk.step N ⟨last, true, false⟩ = ⟨(afterN N last).set, true, !(afterN N last).ok⟩ := rfl
      have hsp : stepN N ⟨last, true, false⟩ k = if (afterN N last).ok then 2 * (N.l.length : Int) else 0 := rfl
      unfold NextP
      rw [hnx, hst, hsp]
      simp only at HAF
      obtain ⟨P, hP⟩ : ∃ P, afterN N last = P := ⟨_, rfl⟩
      rw [hP] at HAF ⊢
      obtain ⟨ps, po⟩ := P
      simp only at HAF
      obtain ⟨c0, c1, c2, c3, c4, c5⟩ := hq.cells
      obtain ⟨f1, f2, f3, f4, f5⟩ := hq.frz
      obtain ⟨m1, z1, z2, y1, y2⟩ := hq.more
      simp only [wkF] at c0 c1 c2 c3 c4 c5
      clear hnx hst hsp hP
      go_enter Tryd.func31, Tryd.ntmps31
      go_wp2_with fail
      replace hq := (hq.set 5 (.int .i64 (2 * (N.l.length : Int)))).drew
      clear c0 c1 c2 c3 c4 c5 f1 f2 f3 f4 f5 m1 z1 z2 y1 y2
      obtain ⟨c0, c1, c2, c3, c4, c5⟩ := hq.cells
      obtain ⟨f1, f2, f3, f4, f5⟩ := hq.frz
      obtain ⟨m1, z1, z2, y1, y2⟩ := hq.more
      simp [wkF] at c0 c1 c2 c3 c4 c5
      go_region_law (
        go_simp
        go_at_call 38
        (with_reducible refine (HAF.out _ _ hq).mono ?_)
        rintro e w5 ⟨rfl, hb5⟩
        replace hq := hq.below hb5
        have hz2 := hq.hi1.2.2
        clear c0 c1 c2 c3 c4 c5 f1 f2 f3 f4 f5 m1 z1 z2 y1 y2
        obtain ⟨c0, c1, c2, c3, c4, c5⟩ := hq.cells
        obtain ⟨f1, f2, f3, f4, f5⟩ := hq.frz
        obtain ⟨m1, z1, z2, y1, y2⟩ := hq.more
        simp [wkF] at c0 c1 c2 c3 c4 c5)
      all_goals
        cases po
        · go_wp2
          have hq2 := ((((hq.set 1 (.int .u64 (lo ps : Int))).set 2 (.int .u64 (hi ps : Int))).set 3 (.bool true)).set 4 (.bool true)).set 5 (.int .i64 0)
          exact ret_set2 rfl ps rfl rfl (setPut hq2.r ps) rfl rfl rfl ⟨rfl, hq2.fin (six rfl rfl rfl rfl rfl rfl) _ _⟩
        · go_wp2
          have hq2 := (((hq.set 1 (.int .u64 (lo ps : Int))).set 2 (.int .u64 (hi ps : Int))).set 3 (.bool true)).set 4 (.bool false)
          exact ret_set2 rfl ps rfl rfl (setPut hq2.r ps) rfl rfl rfl ⟨rfl, hq2.fin (six rfl rfl rfl rfl rfl rfl) _ _⟩
  · have hnx : Wk.next N ⟨last, bg, true⟩ = ⟨0, false⟩ := rfl
    have hst : Wk.step N ⟨last, bg, true⟩ = ⟨last, bg, true⟩ := rfl
    have hsp : stepN N ⟨last, bg, true⟩ k = k := rfl
    unfold NextP
    rw [hnx, hst, hsp]
    obtain ⟨c0, c1, c2, c3, c4, c5⟩ := hq.cells
    obtain ⟨f1, f2, f3, f4, f5⟩ := hq.frz
    obtain ⟨m1, z1, z2, y1, y2⟩ := hq.more
    simp only [wkF] at c0 c1 c2 c3 c4 c5
    clear hnx hst hsp
    go_enter Tryd.func31, Tryd.ntmps31
    go_wp2
    exact ret_set2 rfl 0 rfl rfl hq.r rfl rfl rfl ⟨rfl, hq.lies (six rfl rfl rfl rfl rfl rfl), hq.grown⟩
end Go.Proofs.YtemgfhdgpkmmaaaDoor
