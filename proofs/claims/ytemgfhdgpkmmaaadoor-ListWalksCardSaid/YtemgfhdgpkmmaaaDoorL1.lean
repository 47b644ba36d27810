/- The small functions of package list. -/
import Derived.Test.YtemgfhdgpkmmaaaDoorEw
import Derived.Test.YtemgfhdgpkmmaaaDoorQ5
set_option linter.unusedSimpArgs false
set_option linter.unusedVariables false
open Go Go.RowKit Cs
namespace Go.Proofs.YtemgfhdgpkmmaaaDoor
/-- A turn and a partial set, as values and as rows of cells. -/
abbrev tnV (t : Tn) : Value := .agg #[.int .u64 (lo t.set : Int), .int .u64 (hi t.set : Int), .int .i64 (t.far : Int)]
def tnF (t : Tn) (i : Nat) : Value := if i = 0 then .int .u64 (lo t.set : Int) else if i = 1 then .int .u64 (hi t.set : Int) else .int .i64 (t.far : Int)
abbrev ptV (p : Pt) : Value := .agg #[.int .u64 (lo p.set : Int), .int .u64 (hi p.set : Int), .bool p.ok]
def ptF (p : Pt) (i : Nat) : Value := if i = 0 then .int .u64 (lo p.set : Int) else if i = 1 then .int .u64 (hi p.set : Int) else .bool p.ok
theorem row3 (w : World) (x y z : Value) (t : TypeId) (g : Nat) (hg : w.heap.size = g) : (w.alloc (.cells #[x, y, z] t)).rowIs g t 3 fun i => if i = 0 then x else if i = 1 then y else z := by
  subst hg
  exact World.rowIs_alloc w #[x, y, z] t _ fun i hi => by
    have : i = 0 ∨ i = 1 ∨ i = 2 := by simp at hi; omega
    rcases this with rfl | rfl | rfl <;> rfl
theorem tnNew (w : World) (p : Tn) (t : TypeId) (g : Nat) (hg : w.heap.size = g) : (w.alloc (.cells #[.int .u64 (lo p.set : Int), .int .u64 (hi p.set : Int), .int .i64 (p.far : Int)] t)).rowIs g t 3 (tnF p) := row3 w _ _ _ t g hg
theorem ptNew (w : World) (p : Pt) (t : TypeId) (g : Nat) (hg : w.heap.size = g) : (w.alloc (.cells #[.int .u64 (lo p.set : Int), .int .u64 (hi p.set : Int), .bool p.ok] t)).rowIs g t 3 (ptF p) := row3 w _ _ _ t g hg
theorem tnCells {w : World} {g : Nat} {t : TypeId} {p : Tn} (h : w.rowIs g t 3 (tnF p)) :
    w.cell? ⟨g, 0, none⟩ = some (.int .u64 (lo p.set : Int)) ∧ w.cell? ⟨g, 1, none⟩ = some (.int .u64 (hi p.set : Int)) ∧ w.cell? ⟨g, 2, none⟩ = some (.int .i64 (p.far : Int)) := ⟨h.cell (i := 0) (by omega), h.cell (i := 1) (by omega), h.cell (i := 2) (by omega)⟩
theorem ptCells {w : World} {g : Nat} {t : TypeId} {p : Pt} (h : w.rowIs g t 3 (ptF p)) :
    w.cell? ⟨g, 0, none⟩ = some (.int .u64 (lo p.set : Int)) ∧ w.cell? ⟨g, 1, none⟩ = some (.int .u64 (hi p.set : Int)) ∧ w.cell? ⟨g, 2, none⟩ = some (.bool p.ok) := ⟨h.cell (i := 0) (by omega), h.cell (i := 1) (by omega), h.cell (i := 2) (by omega)⟩
theorem cellsOf {w : World} {g : Nat} {t : TypeId} {s : Nat} (h : w.rowIs g t 2 (setF s)) :
    w.cell? ⟨g, 0, none⟩ = some (.int .u64 (lo s : Int)) ∧ w.cell? ⟨g, 1, none⟩ = some (.int .u64 (hi s : Int)) := ⟨h.cell (i := 0) (by omega), h.cell (i := 1) (by omega)⟩
set_option maxRecDepth 100000 in
set_option maxHeartbeats 1000000 in
theorem upTo_any (w : World) (s v : Nat) (hv : v ≤ 1000) : Calls Tryd.prog 98 #[setV s, .int .i64 (v : Int)] w fun e w' => e = .returned (setV (upToN s v)) ∧ Below w.heap.size w w' := by
  have ha := fun W => all_any W ((min v 128 : Nat) : Int)
  have hc := fun W => cut_any W s (allTo ((min v 128 : Nat) : Int))
  have hu : s &&& allTo ((min v 128 : Nat) : Int) = upToN s v := rfl
  rw [hu] at hc
  obtain ⟨U, hU⟩ : ∃ U, upToN s v = U := ⟨_, rfl⟩
  obtain ⟨Z, hZ⟩ : ∃ U, allTo ((min v 128 : Nat) : Int) = U := ⟨_, rfl⟩
  obtain ⟨m, hm⟩ : ∃ m, min v 128 = m := ⟨_, rfl⟩
  rw [hU] at hc ⊢
  simp only [hZ] at hc ha
  simp only [hm] at ha
  have hmm : min (v : Int) 128 = (m : Int) := by omega
  have hm2 : (if (v : Int) ≤ 128 then (v : Int) else 128) = (m : Int) := by split <;> omega
  have HA := Lib.hid ha
  have HC := Lib.hid hc
  have hx1 := (setNew w s 27 _ rfl).alloc (.cells #[.int .u64 0, .int .u64 0] 27)
  have hx2 := setZero (w.alloc (.cells #[.int .u64 (lo s : Int), .int .u64 (hi s : Int)] 27)) 27 (w.heap.size + 1) (by simp)
  have hbl : Below w.heap.size w ((w.alloc (.cells #[.int .u64 (lo s : Int), .int .u64 (hi s : Int)] 27)).alloc (.cells #[.int .u64 0, .int .u64 0] 27)) := ((Below.refl _ _).alloc (Nat.le_refl _) _).alloc (by simp) _
  clear ha hc hu hU hZ hm
  go_enter Tryd.func98, Tryd.ntmps98
  go_wp2_with fail
  replace hbl := belowDrewN hbl 1
  change Below _ _ (World.drew _) at hbl
  replace hx1 := hx1.drew
  replace hx2 := hx2.drew
  obtain ⟨c1, c2, _, _⟩ := setCells hx1
  obtain ⟨_, _, f3, f4⟩ := setCells hx2
  go_region_held3 (fun w' => w'.cell? ⟨w.heap.size, 0, none⟩ = some (.int .u64 (lo s : Int)) ∧ w'.cell? ⟨w.heap.size, 1, none⟩ = some (.int .u64 (hi s : Int))) (first | exact ⟨c1, c2⟩ | go_keep)
    (first
      | (go_simp
         go_at_call 53
         (with_reducible refine (HA.out _).mono ?_)
         rintro e w9 ⟨rfl, hb9⟩
         replace hx1 := rowBelow hx1 hb9
         replace hx2 := rowBelow hx2 hb9
         replace hbl := Cs.Below.trans' hbl hb9 hbl.size
         obtain ⟨c1, c2, _, _⟩ := setCells hx1
         obtain ⟨_, _, f3, f4⟩ := setCells hx2)
      | (go_simp
         go_at_call 41
         (with_reducible refine (HC.out _).mono ?_)
         rintro e w9 ⟨rfl, hb9⟩
         replace hx1 := rowBelow hx1 hb9
         replace hx2 := rowBelow hx2 hb9
         replace hbl := Cs.Below.trans' hbl hb9 hbl.size
         obtain ⟨c1, c2, _, _⟩ := setCells hx1
         obtain ⟨_, _, f3, f4⟩ := setCells hx2))
  all_goals
    try go_wp2
    exact ret_set rfl U rfl (setPut hx2 _) rfl rfl rfl ⟨rfl, (hbl.setCell (by simp) _).setCell (by simp) _⟩
theorem putFar {w : World} {g b i : Nat} {u v : Value} {x : Option Value} (hne : g ≠ b) (h : w.cell? ⟨b, i, none⟩ = x) : ((w.setCell ⟨g, 0, none⟩ u).setCell ⟨g, 1, none⟩ v).cell? ⟨b, i, none⟩ = x :=
  (World.cell?_setCell_far _ _ _ _ hne).trans ((World.cell?_setCell_far _ _ _ _ hne).trans h)
/-- The boxes of turns$1: the turn, two sets, the result, and the set that the closure holds. -/
structure TnR (w : World) (T : Tn) (x y a B : Nat) (wr : World) : Prop where
  t : wr.rowIs w.heap.size 133 3 (tnF T)
  x : wr.rowIs (w.heap.size + 1) 27 2 (setF x)
  y : wr.rowIs (w.heap.size + 1 + 1) 27 2 (setF y)
  r : wr.rowIs (w.heap.size + 1 + 1 + 1) 27 2 (setF 0)
  a : wr.rowIs B 27 2 (setF a)
  bl : Below w.heap.size w wr
section
variable {w wr w' : World} {T : Tn} {x y a B : Nat}
theorem TnR.below (h : TnR w T x y a B wr) (hb : Below wr.heap.size wr w') : TnR w T x y a B w' := ⟨rowBelow h.t hb, rowBelow h.x hb, rowBelow h.y hb, rowBelow h.r hb, rowBelow h.a hb, Cs.Below.trans' h.bl hb h.bl.size⟩
theorem TnR.drew (h : TnR w T x y a B wr) : TnR w T x y a B wr.drew := h.below (belowDrewN (Below.refl _ _) 1)
end
set_option maxRecDepth 100000 in
set_option maxHeartbeats 1000000 in
theorem turns1_any (w : World) (T : Tn) (x y a B : Nat) (hf : T.far ≤ 1000) (hB : w.rowIs B 27 2 (setF a)) :
    Calls Tryd.prog 97 #[tnV T, setV x, setV y, .pointer (some ⟨B, 0, none⟩)] w fun e w' => e = .returned (setV (tnWide a T x y)) ∧ Below w.heap.size w w' := by
  have h1 := fun W => minus_any W x y
  have h2 := fun W => minus_any W (minus x y) a
  have h3 := fun W => upTo_any W (minus (minus x y) a) T.far hf
  have h4 := fun W => union_any W T.set (upToN (minus (minus x y) a) T.far)
  have hu : T.set ||| upToN (minus (minus x y) a) T.far = tnWide a T x y := rfl
  rw [hu] at h4
  obtain ⟨R, hR⟩ : ∃ U, tnWide a T x y = U := ⟨_, rfl⟩
  obtain ⟨U, hU⟩ : ∃ U, upToN (minus (minus x y) a) T.far = U := ⟨_, rfl⟩
  obtain ⟨Z, hZ⟩ : ∃ U, minus (minus x y) a = U := ⟨_, rfl⟩
  obtain ⟨m, hm⟩ : ∃ m, minus x y = m := ⟨_, rfl⟩
  rw [hR] at h4 ⊢
  simp only [hU] at h3 h4
  simp only [hZ] at h2 h3
  simp only [hm] at h1 h2
  have H1 := Lib.hid h1
  have H2 := Lib.hid h2
  have H3 := Lib.hid h3
  have H4 := Lib.hid h4
  have hq : TnR w T x y a B ((((w.alloc (.cells #[.int .u64 (lo T.set : Int), .int .u64 (hi T.set : Int), .int .i64 (T.far : Int)] 133)).alloc (.cells #[.int .u64 (lo x : Int), .int .u64 (hi x : Int)] 27)).alloc (.cells #[.int .u64 (lo y : Int), .int .u64 (hi y : Int)] 27)).alloc (.cells #[.int .u64 0, .int .u64 0] 27)) :=
    ⟨(((tnNew w T _ _ rfl).alloc _).alloc _).alloc _, ((setNew _ x _ _ (by simp)).alloc _).alloc _, (setNew _ y _ _ (by simp)).alloc _, setZero _ _ _ (by simp), (((hB.alloc _).alloc _).alloc _).alloc _,
      ((((Below.refl _ _).alloc (Nat.le_refl _) _).alloc (by simp) _).alloc (by simp; omega) _).alloc (by simp; omega) _⟩
  clear h1 h2 h3 h4 hu hU hZ hm hR hf
  have hBl := hB.lt
  have N0 : Hid (w.heap.size + 1 + 1 + 1 ≠ w.heap.size) := Lib.hid (by omega)
  have N1 : Hid (w.heap.size + 1 + 1 + 1 ≠ w.heap.size + 1) := Lib.hid (by omega)
  have N2 : Hid (w.heap.size + 1 + 1 + 1 ≠ w.heap.size + 1 + 1) := Lib.hid (by omega)
  have N3 : Hid (w.heap.size + 1 + 1 + 1 ≠ B) := Lib.hid (by omega)
  go_enter Tryd.func97, Tryd.ntmps97
  go_wp2_with fail
  replace hq := hq.drew
  obtain ⟨c1, c2, c3⟩ := tnCells hq.t
  obtain ⟨c4, c5⟩ := cellsOf hq.x
  obtain ⟨c6, c7⟩ := cellsOf hq.y
  obtain ⟨c8, c9⟩ := cellsOf hq.a
  obtain ⟨_, _, f1, f2⟩ := setCells hq.r
  go_region_held3 (fun w' => w'.cell? ⟨w.heap.size, 0, none⟩ = some (.int .u64 (lo T.set : Int)) ∧ w'.cell? ⟨w.heap.size, 1, none⟩ = some (.int .u64 (hi T.set : Int)) ∧ w'.cell? ⟨w.heap.size, 2, none⟩ = some (.int .i64 (T.far : Int)) ∧
      w'.cell? ⟨w.heap.size + 1, 0, none⟩ = some (.int .u64 (lo x : Int)) ∧ w'.cell? ⟨w.heap.size + 1, 1, none⟩ = some (.int .u64 (hi x : Int)) ∧
      w'.cell? ⟨w.heap.size + 1 + 1, 0, none⟩ = some (.int .u64 (lo y : Int)) ∧ w'.cell? ⟨w.heap.size + 1 + 1, 1, none⟩ = some (.int .u64 (hi y : Int)) ∧
      w'.cell? ⟨B, 0, none⟩ = some (.int .u64 (lo a : Int)) ∧ w'.cell? ⟨B, 1, none⟩ = some (.int .u64 (hi a : Int))) (first | exact ⟨c1, c2, c3, c4, c5, c6, c7, c8, c9⟩ | exact ⟨putFar N0.out c1, putFar N0.out c2, putFar N0.out c3, putFar N1.out c4, putFar N1.out c5, putFar N2.out c6, putFar N2.out c7, putFar N3.out c8, putFar N3.out c9⟩ | go_keep)
    (first
      | (go_simp
         go_at_call 83
         (with_reducible first | refine (H1.out _).mono ?_ | refine (H2.out _).mono ?_)
         rintro e w9 ⟨rfl, hb9⟩
         replace hq := hq.below hb9
         obtain ⟨c1, c2, c3⟩ := tnCells hq.t
         obtain ⟨c4, c5⟩ := cellsOf hq.x
         obtain ⟨c6, c7⟩ := cellsOf hq.y
         obtain ⟨c8, c9⟩ := cellsOf hq.a
         obtain ⟨_, _, f1, f2⟩ := setCells hq.r)
      | (go_simp
         go_at_call 98
         (with_reducible refine (H3.out _).mono ?_)
         rintro e w9 ⟨rfl, hb9⟩
         replace hq := hq.below hb9
         obtain ⟨c1, c2, c3⟩ := tnCells hq.t
         obtain ⟨c4, c5⟩ := cellsOf hq.x
         obtain ⟨c6, c7⟩ := cellsOf hq.y
         obtain ⟨c8, c9⟩ := cellsOf hq.a
         obtain ⟨_, _, f1, f2⟩ := setCells hq.r)
      | (go_simp
         go_at_call 42
         (with_reducible refine (H4.out _).mono ?_)
         rintro e w9 ⟨rfl, hb9⟩
         replace hq := hq.below hb9
         obtain ⟨c1, c2, c3⟩ := tnCells hq.t
         obtain ⟨c4, c5⟩ := cellsOf hq.x
         obtain ⟨c6, c7⟩ := cellsOf hq.y
         obtain ⟨c8, c9⟩ := cellsOf hq.a
         obtain ⟨_, _, f1, f2⟩ := setCells hq.r))
  all_goals
    try go_wp2
    exact ret_set rfl R rfl (setPut hq.r _) rfl rfl rfl ⟨rfl, (hq.bl.setCell (by simp; omega) _).setCell (by simp; omega) _⟩
/-- The boxes of least$1. -/
structure PtR (w : World) (T : Pt) (x y a f B C : Nat) (wr : World) : Prop where
  t : wr.rowIs w.heap.size 128 3 (ptF T)
  x : wr.rowIs (w.heap.size + 1) 27 2 (setF x)
  y : wr.rowIs (w.heap.size + 1 + 1) 27 2 (setF y)
  r : wr.rowIs (w.heap.size + 1 + 1 + 1) 27 2 (setF 0)
  a : wr.rowIs B 27 2 (setF a)
  f : wr.rowIs C 27 2 (setF f)
  bl : Below w.heap.size w wr
section
variable {w wr w' : World} {T : Pt} {x y a f B C : Nat}
theorem PtR.below (h : PtR w T x y a f B C wr) (hb : Below wr.heap.size wr w') : PtR w T x y a f B C w' := ⟨rowBelow h.t hb, rowBelow h.x hb, rowBelow h.y hb, rowBelow h.r hb, rowBelow h.a hb, rowBelow h.f hb, Cs.Below.trans' h.bl hb h.bl.size⟩
theorem PtR.drew (h : PtR w T x y a f B C wr) : PtR w T x y a f B C wr.drew := h.below (belowDrewN (Below.refl _ _) 1)
end
set_option maxRecDepth 100000 in
set_option maxHeartbeats 1000000 in
theorem least1_any (w : World) (T : Pt) (x y a f B C : Nat) (hB : w.rowIs B 27 2 (setF a)) (hC : w.rowIs C 27 2 (setF f)) :
    Calls Tryd.prog 88 #[ptV T, setV x, setV y, .pointer (some ⟨B, 0, none⟩), .pointer (some ⟨C, 0, none⟩)] w fun e w' => e = .returned (setV (T.set ||| (minus x y &&& (a &&& f)))) ∧ Below w.heap.size w w' := by
  have h1 := fun W => minus_any W x y
  have h2 := fun W => cut_any W a f
  have h3 := fun W => cut_any W (minus x y) (a &&& f)
  have h4 := fun W => union_any W T.set (minus x y &&& (a &&& f))
  obtain ⟨R, hR⟩ : ∃ U, T.set ||| (minus x y &&& (a &&& f)) = U := ⟨_, rfl⟩
  rw [hR] at h4 ⊢
  obtain ⟨U, hU⟩ : ∃ U, minus x y &&& (a &&& f) = U := ⟨_, rfl⟩
  simp only [hU] at h3 h4
  obtain ⟨Z, hZ⟩ : ∃ U, a &&& f = U := ⟨_, rfl⟩
  simp only [hZ] at h2 h3
  obtain ⟨m, hm⟩ : ∃ m, minus x y = m := ⟨_, rfl⟩
  simp only [hm] at h1 h3
  have H1 := Lib.hid h1
  have H2 := Lib.hid h2
  have H3 := Lib.hid h3
  have H4 := Lib.hid h4
  have hq : PtR w T x y a f B C ((((w.alloc (.cells #[.int .u64 (lo T.set : Int), .int .u64 (hi T.set : Int), .bool T.ok] 128)).alloc (.cells #[.int .u64 (lo x : Int), .int .u64 (hi x : Int)] 27)).alloc (.cells #[.int .u64 (lo y : Int), .int .u64 (hi y : Int)] 27)).alloc (.cells #[.int .u64 0, .int .u64 0] 27)) :=
    ⟨(((ptNew w T _ _ rfl).alloc _).alloc _).alloc _, ((setNew _ x _ _ (by simp)).alloc _).alloc _, (setNew _ y _ _ (by simp)).alloc _, setZero _ _ _ (by simp), (((hB.alloc _).alloc _).alloc _).alloc _, (((hC.alloc _).alloc _).alloc _).alloc _,
      ((((Below.refl _ _).alloc (Nat.le_refl _) _).alloc (by simp) _).alloc (by simp; omega) _).alloc (by simp; omega) _⟩
  clear h1 h2 h3 h4 hU hZ hm hR
  have hBl := hB.lt
  have hCl := hC.lt
  have N4 : Hid (w.heap.size + 1 + 1 + 1 ≠ C) := Lib.hid (by omega)
  have N0 : Hid (w.heap.size + 1 + 1 + 1 ≠ w.heap.size) := Lib.hid (by omega)
  have N1 : Hid (w.heap.size + 1 + 1 + 1 ≠ w.heap.size + 1) := Lib.hid (by omega)
  have N2 : Hid (w.heap.size + 1 + 1 + 1 ≠ w.heap.size + 1 + 1) := Lib.hid (by omega)
  have N3 : Hid (w.heap.size + 1 + 1 + 1 ≠ B) := Lib.hid (by omega)
  go_enter Tryd.func88, Tryd.ntmps88
  go_wp2_with fail
  replace hq := hq.drew
  obtain ⟨c1, c2, c3⟩ := ptCells hq.t
  obtain ⟨c4, c5⟩ := cellsOf hq.x
  obtain ⟨c6, c7⟩ := cellsOf hq.y
  obtain ⟨c8, c9⟩ := cellsOf hq.a
  obtain ⟨d8, d9⟩ := cellsOf hq.f
  obtain ⟨_, _, f1, f2⟩ := setCells hq.r
  go_region_held3 (fun w' => w'.cell? ⟨w.heap.size, 0, none⟩ = some (.int .u64 (lo T.set : Int)) ∧ w'.cell? ⟨w.heap.size, 1, none⟩ = some (.int .u64 (hi T.set : Int)) ∧ 
      w'.cell? ⟨w.heap.size + 1, 0, none⟩ = some (.int .u64 (lo x : Int)) ∧ w'.cell? ⟨w.heap.size + 1, 1, none⟩ = some (.int .u64 (hi x : Int)) ∧
      w'.cell? ⟨w.heap.size + 1 + 1, 0, none⟩ = some (.int .u64 (lo y : Int)) ∧ w'.cell? ⟨w.heap.size + 1 + 1, 1, none⟩ = some (.int .u64 (hi y : Int)) ∧
      w'.cell? ⟨B, 0, none⟩ = some (.int .u64 (lo a : Int)) ∧ w'.cell? ⟨B, 1, none⟩ = some (.int .u64 (hi a : Int)) ∧ w'.cell? ⟨C, 0, none⟩ = some (.int .u64 (lo f : Int)) ∧ w'.cell? ⟨C, 1, none⟩ = some (.int .u64 (hi f : Int))) (first | exact ⟨c1, c2, c4, c5, c6, c7, c8, c9, d8, d9⟩ | exact ⟨putFar N0.out c1, putFar N0.out c2, putFar N1.out c4, putFar N1.out c5, putFar N2.out c6, putFar N2.out c7, putFar N3.out c8, putFar N3.out c9, putFar N4.out d8, putFar N4.out d9⟩ | go_keep)
    (first
      | (go_simp
         go_at_call 83
         (with_reducible refine (H1.out _).mono ?_)
         rintro e w9 ⟨rfl, hb9⟩
         replace hq := hq.below hb9
         obtain ⟨c1, c2, c3⟩ := ptCells hq.t
         obtain ⟨c4, c5⟩ := cellsOf hq.x
         obtain ⟨c6, c7⟩ := cellsOf hq.y
         obtain ⟨c8, c9⟩ := cellsOf hq.a
         obtain ⟨d8, d9⟩ := cellsOf hq.f
         obtain ⟨_, _, f1, f2⟩ := setCells hq.r)
      | (go_simp
         go_at_call 41
         (with_reducible first | refine (H2.out _).mono ?_ | refine (H3.out _).mono ?_)
         rintro e w9 ⟨rfl, hb9⟩
         replace hq := hq.below hb9
         obtain ⟨c1, c2, c3⟩ := ptCells hq.t
         obtain ⟨c4, c5⟩ := cellsOf hq.x
         obtain ⟨c6, c7⟩ := cellsOf hq.y
         obtain ⟨c8, c9⟩ := cellsOf hq.a
         obtain ⟨d8, d9⟩ := cellsOf hq.f
         obtain ⟨_, _, f1, f2⟩ := setCells hq.r)
      | (go_simp
         go_at_call 42
         (with_reducible refine (H4.out _).mono ?_)
         rintro e w9 ⟨rfl, hb9⟩
         replace hq := hq.below hb9
         obtain ⟨c1, c2, c3⟩ := ptCells hq.t
         obtain ⟨c4, c5⟩ := cellsOf hq.x
         obtain ⟨c6, c7⟩ := cellsOf hq.y
         obtain ⟨c8, c9⟩ := cellsOf hq.a
         obtain ⟨d8, d9⟩ := cellsOf hq.f
         obtain ⟨_, _, f1, f2⟩ := setCells hq.r))
  all_goals
    try go_wp2
    exact ret_set rfl R rfl (setPut hq.r _) rfl rfl rfl ⟨rfl, (hq.bl.setCell (by simp; omega) _).setCell (by simp; omega) _⟩
end Go.Proofs.YtemgfhdgpkmmaaaDoor
