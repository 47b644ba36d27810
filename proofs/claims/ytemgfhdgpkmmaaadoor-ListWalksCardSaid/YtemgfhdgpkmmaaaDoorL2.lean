/- The walk of list.newLister. -/
import Derived.Test.YtemgfhdgpkmmaaaDoorL1
import Derived.Deep.RegionWith
set_option linter.unusedSimpArgs false
set_option linter.unusedVariables false
open Go Go.RowKit Cs
namespace Go.Proofs.YtemgfhdgpkmmaaaDoor
/-- What newLister answers. -/
def lerr (N : Nt) (a : Nat) : Int := if vld N && decide (minus a (allTo N.n) = 0) then (if dcmp N then 0 else 210) else 1
def lsF (N : Nt) (A : Option Addr) (c q : Nat) (i : Nat) : Value := if i = 0 then .int .i64 N.n else if i = 1 then .slice A N.l.length c else .slice (some ⟨q, 0, none⟩) N.l.length N.l.length
/-- A lister lies at block g, its sets at block q. -/
structure LsAt (w : World) (N : Nt) (A : Option Addr) (c g q : Nat) : Prop where
  row : w.rowIs g 96 3 (lsF N A c q)
  sets : w.rowIs q 27 (N.l.length * 2) (setsF (own N.l))
set_option maxRecDepth 100000 in
set_option maxHeartbeats 1000000 in
theorem newLister_inv (w : World) (N : Nt) (A : Option Addr) (c a : Nat) (hlen : N.l.length ≤ 140737488355328) (hN : NtAt w w.heap.size A N.l) (hv : vld N = false) :
    Calls Tryd.prog 37 #[ntV N A c, setV a] w fun e w' => e = .returned (.tuple #[.pointer none, .int .i64 1]) ∧ Below w.heap.size w w' := by
  have hck := fun W h => nodeCheck_any W N A c hlen h
  rw [show chk N = 1 by unfold chk; rw [hv]; rfl] at hck
  have HCK := Lib.hid hck
  have hbl : Below w.heap.size w ((w.alloc (.cells #[.int .i64 N.n, .slice A N.l.length c] 24)).alloc (.cells #[.int .u64 (lo a : Int), .int .u64 (hi a : Int)] 27)) := ((Below.refl _ _).alloc (Nat.le_refl _) _).alloc (by simp) _
  have hbox := (ntNew w N A c 24 _ rfl).alloc (.cells #[.int .u64 (lo a : Int), .int .u64 (hi a : Int)] 27)
  clear hck
  go_enter Tryd.func37, Tryd.ntmps37
  go_wp2_with fail
  replace hbl := belowDrewN hbl 1
  change Below _ _ (World.drew _) at hbl
  replace hbox := hbox.drew
  obtain ⟨hc1, hc2⟩ := ntCells hbox
  first
    | go_region_with ((go_simp; go_at_call 33; refine (HCK.out _ ((hN.below hbl).more hbl.size)).mono ?_; rintro e w5 ⟨rfl, hb5⟩; replace hbl := Cs.Below.trans' hbl hb5 hbl.size))
    | fail
  all_goals
    try go_wp2
    go_ret2
    exact ⟨rfl, hbl⟩
/-- The boxes of newLister: the net, the set. -/
structure LnR (w : World) (N : Nt) (A : Option Addr) (c a : Nat) (wr : World) : Prop where
  n : wr.rowIs w.heap.size 24 2 (ntF N A c)
  a : wr.rowIs (w.heap.size + 1) 27 2 (setF a)
  bl : Below w.heap.size w wr
section
variable {w wr w' : World} {N : Nt} {A : Option Addr} {c a : Nat}
theorem LnR.below (h : LnR w N A c a wr) (hb : Below wr.heap.size wr w') : LnR w N A c a w' := ⟨rowBelow h.n hb, rowBelow h.a hb, Cs.Below.trans' h.bl hb h.bl.size⟩
theorem LnR.drew (h : LnR w N A c a wr) : LnR w N A c a wr.drew := h.below (belowDrewN (Below.refl _ _) 1)
theorem LnR.cells (h : LnR w N A c a wr) : wr.cell? ⟨w.heap.size, 0, none⟩ = some (.int .i64 N.n) ∧ wr.cell? ⟨w.heap.size, 1, none⟩ = some (.slice A N.l.length c) ∧ wr.cell? ⟨w.heap.size + 1, 0, none⟩ = some (.int .u64 (lo a : Int)) ∧ wr.cell? ⟨w.heap.size + 1, 1, none⟩ = some (.int .u64 (hi a : Int)) :=
  ⟨(ntCells h.n).1, (ntCells h.n).2, (cellsOf h.a).1, (cellsOf h.a).2⟩
end
set_option maxRecDepth 100000 in
set_option maxHeartbeats 1000000 in
theorem newLister_out (w : World) (N : Nt) (A : Option Addr) (c a : Nat) (hlen : N.l.length ≤ 140737488355328) (hN : NtAt w w.heap.size A N.l) (ha : IsSet a) (hv : vld N = true) (hs : decide (minus a (allTo N.n) = 0) = false) :
    Calls Tryd.prog 37 #[ntV N A c, setV a] w fun e w' => e = .returned (.tuple #[.pointer none, .int .i64 1]) ∧ Below w.heap.size w w' := by
  have hck := fun W h => nodeCheck_any W N A c hlen h
  rw [show chk N = 0 by unfold chk; rw [hv]; rfl] at hck
  have HCK := Lib.hid hck
  have hal := fun W => all_any W N.n
  have hsu := fun W => sub_any W a (allTo N.n) ha
  rw [hs] at hsu
  have hq : LnR w N A c a ((w.alloc (.cells #[.int .i64 N.n, .slice A N.l.length c] 24)).alloc (.cells #[.int .u64 (lo a : Int), .int .u64 (hi a : Int)] 27)) :=
    ⟨(ntNew w N A c _ _ rfl).alloc _, setNew _ a _ _ (by simp), ((Below.refl _ _).alloc (Nat.le_refl _) _).alloc (by simp) _⟩
  obtain ⟨Z, hZ⟩ : ∃ Z, allTo N.n = Z := ⟨_, rfl⟩
  simp only [hZ] at hal hsu
  have HAL := Lib.hid hal
  have HSU := Lib.hid hsu
  clear hck hal hsu hs hv hZ
  go_enter Tryd.func37, Tryd.ntmps37
  go_wp2_with fail
  replace hq := hq.drew
  obtain ⟨c1, c2, c3, c4⟩ := hq.cells
  first
    | go_region_held3 (fun w' => w'.cell? ⟨w.heap.size, 0, none⟩ = some (.int .i64 N.n) ∧ w'.cell? ⟨w.heap.size, 1, none⟩ = some (.slice A N.l.length c) ∧ w'.cell? ⟨w.heap.size + 1, 0, none⟩ = some (.int .u64 (lo a : Int)) ∧ w'.cell? ⟨w.heap.size + 1, 1, none⟩ = some (.int .u64 (hi a : Int))) (first | exact ⟨c1, c2, c3, c4⟩ | go_keep)
        (first
          | (go_simp
             go_at_call 33
             (with_reducible refine (HCK.out _ ((hN.below hq.bl).more hq.bl.size)).mono ?_)
             rintro e w5 ⟨rfl, hb5⟩
             replace hq := hq.below hb5
             obtain ⟨c1, c2, c3, c4⟩ := hq.cells)
          | (go_simp
             go_at_call 53
             (with_reducible refine (HAL.out _).mono ?_)
             rintro e w5 ⟨rfl, hb5⟩
             replace hq := hq.below hb5
             obtain ⟨c1, c2, c3, c4⟩ := hq.cells)
          | (go_simp
             go_at_call 70
             (with_reducible refine (HSU.out _).mono ?_)
             rintro e w5 ⟨rfl, hb5⟩
             replace hq := hq.below hb5
             obtain ⟨c1, c2, c3, c4⟩ := hq.cells))
    | fail
  all_goals
    try go_wp2
    go_ret2
    exact ⟨rfl, hq.bl⟩
set_option maxRecDepth 100000 in
set_option maxHeartbeats 1000000 in
theorem newLister_gap (w : World) (N : Nt) (A : Option Addr) (c a : Nat) (hlen : N.l.length ≤ 140737488355328) (hN : NtAt w w.heap.size A N.l) (ha : IsSet a) (hv : vld N = true) (hs : decide (minus a (allTo N.n) = 0) = true) (hd : dcmp N = false) :
    Calls Tryd.prog 37 #[ntV N A c, setV a] w fun e w' => e = .returned (.tuple #[.pointer none, .int .i64 210]) ∧ Below w.heap.size w w' := by
  have hck := fun W h => nodeCheck_any W N A c hlen h
  rw [show chk N = 0 by unfold chk; rw [hv]; rfl] at hck
  have HCK := Lib.hid hck
  have hdc := fun W h => decomposable_any W N A c h hv
  rw [hd] at hdc
  have HDC := Lib.hid hdc
  have hal := fun W => all_any W N.n
  have hsu := fun W => sub_any W a (allTo N.n) ha
  rw [hs] at hsu
  have hq : LnR w N A c a ((w.alloc (.cells #[.int .i64 N.n, .slice A N.l.length c] 24)).alloc (.cells #[.int .u64 (lo a : Int), .int .u64 (hi a : Int)] 27)) :=
    ⟨(ntNew w N A c _ _ rfl).alloc _, setNew _ a _ _ (by simp), ((Below.refl _ _).alloc (Nat.le_refl _) _).alloc (by simp) _⟩
  obtain ⟨Z, hZ⟩ : ∃ Z, allTo N.n = Z := ⟨_, rfl⟩
  simp only [hZ] at hal hsu
  have HAL := Lib.hid hal
  have HSU := Lib.hid hsu
  clear hck hal hsu hs hv hZ hdc hd
  go_enter Tryd.func37, Tryd.ntmps37
  go_wp2_with fail
  replace hq := hq.drew
  obtain ⟨c1, c2, c3, c4⟩ := hq.cells
  first
    | go_region_held3 (fun w' => w'.cell? ⟨w.heap.size, 0, none⟩ = some (.int .i64 N.n) ∧ w'.cell? ⟨w.heap.size, 1, none⟩ = some (.slice A N.l.length c) ∧ w'.cell? ⟨w.heap.size + 1, 0, none⟩ = some (.int .u64 (lo a : Int)) ∧ w'.cell? ⟨w.heap.size + 1, 1, none⟩ = some (.int .u64 (hi a : Int))) (first | exact ⟨c1, c2, c3, c4⟩ | go_keep)
        (first
          | (go_simp
             go_at_call 33
             (with_reducible refine (HCK.out _ ((hN.below hq.bl).more hq.bl.size)).mono ?_)
             rintro e w5 ⟨rfl, hb5⟩
             replace hq := hq.below hb5
             obtain ⟨c1, c2, c3, c4⟩ := hq.cells)
          | (go_simp
             go_at_call 53
             (with_reducible refine (HAL.out _).mono ?_)
             rintro e w5 ⟨rfl, hb5⟩
             replace hq := hq.below hb5
             obtain ⟨c1, c2, c3, c4⟩ := hq.cells)
          | (go_simp
             go_at_call 70
             (with_reducible refine (HSU.out _).mono ?_)
             rintro e w5 ⟨rfl, hb5⟩
             replace hq := hq.below hb5
             obtain ⟨c1, c2, c3, c4⟩ := hq.cells))
    | fail
  all_goals
    go_wp2_with (go_at_call 17; (with_reducible refine (HDC.out _ ((hN.below hq.bl).more hq.bl.size)).mono ?_); rintro e w6 ⟨rfl, hb6⟩; have hb := Cs.Below.trans' hq.bl hb6 hq.bl.size)
    go_ret2
    exact ⟨rfl, hb⟩
set_option maxRecDepth 100000 in
set_option maxHeartbeats 1000000 in
theorem newLister_ok (w : World) (N : Nt) (A : Option Addr) (c a : Nat) (hlen : N.l.length ≤ 140737488355328) (hN : NtAt w w.heap.size A N.l) (ha : IsSet a) (hv : vld N = true) (hs : decide (minus a (allTo N.n) = 0) = true) (hd : dcmp N = true) :
    Calls Tryd.prog 37 #[ntV N A c, setV a] w fun e w' => ∃ g q, e = .returned (.tuple #[.pointer (some ⟨g, 0, none⟩), .int .i64 0]) ∧ w.heap.size ≤ g ∧ w.heap.size ≤ q ∧ LsAt w' N A c g q ∧ Below w.heap.size w w' := by
  have hck := fun W h => nodeCheck_any W N A c hlen h
  rw [show chk N = 0 by unfold chk; rw [hv]; rfl] at hck
  have HCK := Lib.hid hck
  have hdc := fun W h => decomposable_any W N A c h hv
  rw [hd] at hdc
  have HDC := Lib.hid hdc
  have HNV := Lib.hid (fun W h => nodeVars_any W N A c h hv)
  have hal := fun W => all_any W N.n
  have hsu := fun W => sub_any W a (allTo N.n) ha
  rw [hs] at hsu
  have hq : LnR w N A c a ((w.alloc (.cells #[.int .i64 N.n, .slice A N.l.length c] 24)).alloc (.cells #[.int .u64 (lo a : Int), .int .u64 (hi a : Int)] 27)) :=
    ⟨(ntNew w N A c _ _ rfl).alloc _, setNew _ a _ _ (by simp), ((Below.refl _ _).alloc (Nat.le_refl _) _).alloc (by simp) _⟩
  obtain ⟨Z, hZ⟩ : ∃ Z, allTo N.n = Z := ⟨_, rfl⟩
  simp only [hZ] at hal hsu
  have HAL := Lib.hid hal
  have HSU := Lib.hid hsu
  clear hck hal hsu hs hv hZ hdc hd
  go_enter Tryd.func37, Tryd.ntmps37
  go_wp2_with fail
  replace hq := hq.drew
  obtain ⟨c1, c2, c3, c4⟩ := hq.cells
  first
    | go_region_held3 (fun w' => w'.cell? ⟨w.heap.size, 0, none⟩ = some (.int .i64 N.n) ∧ w'.cell? ⟨w.heap.size, 1, none⟩ = some (.slice A N.l.length c) ∧ w'.cell? ⟨w.heap.size + 1, 0, none⟩ = some (.int .u64 (lo a : Int)) ∧ w'.cell? ⟨w.heap.size + 1, 1, none⟩ = some (.int .u64 (hi a : Int))) (first | exact ⟨c1, c2, c3, c4⟩ | go_keep)
        (first
          | (go_simp
             go_at_call 33
             (with_reducible refine (HCK.out _ ((hN.below hq.bl).more hq.bl.size)).mono ?_)
             rintro e w5 ⟨rfl, hb5⟩
             replace hq := hq.below hb5
             obtain ⟨c1, c2, c3, c4⟩ := hq.cells)
          | (go_simp
             go_at_call 53
             (with_reducible refine (HAL.out _).mono ?_)
             rintro e w5 ⟨rfl, hb5⟩
             replace hq := hq.below hb5
             obtain ⟨c1, c2, c3, c4⟩ := hq.cells)
          | (go_simp
             go_at_call 70
             (with_reducible refine (HSU.out _).mono ?_)
             rintro e w5 ⟨rfl, hb5⟩
             replace hq := hq.below hb5
             obtain ⟨c1, c2, c3, c4⟩ := hq.cells))
    | fail
  all_goals
    go_wp2_with (go_at_call 17; (with_reducible refine (HDC.out _ ((hN.below hq.bl).more hq.bl.size)).mono ?_); rintro e w6 ⟨rfl, hb6⟩; replace hq := hq.below hb6; obtain ⟨c1, c2, c3, c4⟩ := hq.cells)
    replace hq := hq.drew
    obtain ⟨c1, c2, c3, c4⟩ := hq.cells
    have hsz := hq.bl.size
    first
      | go_region_held3 (fun w' => w'.cell? ⟨w.heap.size, 0, none⟩ = some (.int .i64 N.n) ∧ w'.cell? ⟨w.heap.size, 1, none⟩ = some (.slice A N.l.length c)) (first | exact ⟨c1, c2⟩ | go_keep)
          (first
            | (go_simp
               go_at_call 40
               (with_reducible refine (HNV.out _ ((hN.below hq.bl).more hq.bl.size)).mono ?_)
               rintro e w5 ⟨g5, rfl, hg5, hr5, hb5⟩
               replace hq := hq.below hb5
               obtain ⟨c1, c2, c3, c4⟩ := hq.cells))
      | fail
    all_goals
      try go_wp2
      go_ret2
      exact ⟨_, g5, rfl, hq.bl.size, Nat.le_trans hsz hg5, ⟨row3 _ _ _ _ _ _ rfl, hr5.alloc _⟩, hq.bl.alloc hq.bl.size _⟩
end Go.Proofs.YtemgfhdgpkmmaaaDoor
