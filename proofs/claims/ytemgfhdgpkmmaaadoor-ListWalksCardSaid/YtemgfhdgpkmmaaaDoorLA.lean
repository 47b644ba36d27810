/- The walks of list's count. -/
import Derived.Test.YtemgfhdgpkmmaaaDoorL7
import Derived.Test.YtemgfhdgpkmmaaaDoorQ6
import Derived.Test.YtemgfhdgpkmmaaaDoorC1
set_option linter.unusedSimpArgs false
set_option linter.unusedVariables false
open Go Go.RowKit Cs
namespace Cs
theorem big_lt_200 {x d : Nat} (hx : x < big) (hd : d ≤ 200) : x * 2 ^ d < big * 2 ^ 200 := Nat.lt_of_lt_of_le (Nat.mul_lt_mul_of_pos_right hx (Nat.two_pow_pos _)) (Nat.mul_le_mul_left _ (Nat.pow_le_pow_right (by decide) hd))
theorem n8_pow2 (d : Nat) (h : d ≤ 200) : n8 (2 ^ d) ≤ 1000000 := Nat.le_trans (n8_big _ (by have := big_lt_200 (x := 1) big_one h; rwa [Nat.one_mul] at this)) (by decide)
theorem RW_gap (a f : Nat) (O acc : List Nat) (all k : Nat) : (RW a f).gap O acc all k = acc.getD k 0 * 2 ^ crd (minus (minus all (O.getD k 0)) f) := wide_fix a f _ _
theorem RW_pre {N : Nt} (h : shortB N = true) (a f : Nat) (k j : Nat) (hk : k ≤ N.l.length) : (scan ((RW a f).step (own N.l)) [] (N.l.take k)).getD j 0 < big := by
  by_cases hj : j < k
  · rw [scan_same _ _ N.l k j hj hk]; exact RW_all h a f j
  · rw [List.getD_eq_getElem?_getD, List.getElem?_eq_none (by rw [scan_len _ _ _ hk]; omega)]; exact Nat.lt_of_le_of_lt (Nat.zero_le _) big_one
end Cs
namespace Go.Proofs.YtemgfhdgpkmmaaaDoor
theorem natsStart {w : World} {g n : Nat} {t : TypeId} {L : List Nat} (h : w.rowIs g t n (natsF L)) : w.rowIs g t n (natsF (L ++ [0])) := h.congr fun i _ => by
  unfold natsF; rw [getD_snoc]
  split
  · rename_i h1; rw [List.getD_eq_getElem?_getD, List.getElem?_eq_none (by omega)]; rfl
  · rfl
theorem natsAt {w : World} {g n : Nat} {t : TypeId} {L : List Nat} (h : w.rowIs g t n (natsF L)) (j y : Nat) (hj : j < n) (hy : L.getD j 0 = y) : w.cell? ⟨g, j, none⟩ = some (.string (natB y)) := (h.cell (i := j) hj).trans (by unfold natsF; rw [hy])
/-- The boxes of count$1: the number, two sets, the result, and the set that the closure holds. -/
structure CwR (w : World) (c x y f B : Nat) (wr : World) : Prop where
  c : wr.rowIs w.heap.size 43 1 (fun _ => .string (natB c))
  x : wr.rowIs (w.heap.size + 1) 27 2 (setF x)
  y : wr.rowIs (w.heap.size + 1 + 1) 27 2 (setF y)
  r : wr.rowIs (w.heap.size + 1 + 1 + 1) 43 1 (fun _ => .string ⟨#[]⟩)
  f : wr.rowIs B 27 2 (setF f)
  bl : Below w.heap.size w wr
section
variable {w wr w' : World} {c x y f B : Nat}
theorem CwR.below (h : CwR w c x y f B wr) (hb : Below wr.heap.size wr w') : CwR w c x y f B w' := ⟨rowBelow h.c hb, rowBelow h.x hb, rowBelow h.y hb, rowBelow h.r hb, rowBelow h.f hb, Cs.Below.trans' h.bl hb h.bl.size⟩
theorem CwR.drew (h : CwR w c x y f B wr) : CwR w c x y f B wr.drew := h.below (belowDrewN (Below.refl _ _) 1)
end
set_option maxRecDepth 100000 in
set_option maxHeartbeats 1000000 in
theorem count1_any (w : World) (c x y f B : Nat) (hc : c < big) (hB : w.rowIs B 27 2 (setF f)) :
    Calls Tryd.prog 80 #[natV c, setV x, setV y, .pointer (some ⟨B, 0, none⟩)] w fun e w' => e = .returned (natV (c * 2 ^ crd (minus (minus x y) f))) ∧ Below w.heap.size w w' := by
  have h1 := fun W => minus_any W x y
  have h2 := fun W => minus_any W (minus x y) f
  have h3 := fun W => len_any W (minus (minus x y) f)
  have hd := crd_le (minus (minus x y) f)
  obtain ⟨d, hd0⟩ : ∃ d, crd (minus (minus x y) f) = d := ⟨_, rfl⟩
  rw [hd0] at hd ⊢
  simp only [hd0] at h3
  have h4 := fun W => pow2_yes W (d : Int) (by omega) (by omega)
  simp only [Int.toNat_natCast] at h4
  have h5 := fun W => mul_any W c (2 ^ d) (Nat.le_trans (n8_short c hc) (by decide)) (n8_pow2 d (by omega))
  obtain ⟨E, hE⟩ : ∃ E, 2 ^ d = E := ⟨_, rfl⟩
  simp only [hE] at h4 h5
  rw [hE]
  obtain ⟨R, hR⟩ : ∃ R, c * E = R := ⟨_, rfl⟩
  simp only [hR] at h5
  rw [hR]
  obtain ⟨Z, hZ⟩ : ∃ U, minus (minus x y) f = U := ⟨_, rfl⟩
  obtain ⟨m, hm⟩ : ∃ m, minus x y = m := ⟨_, rfl⟩
  simp only [hZ] at h2 h3
  simp only [hm] at h1 h2
  have H1 := Lib.hid h1
  have H2 := Lib.hid h2
  have H3 := Lib.hid h3
  have H4 := Lib.hid h4
  have H5 := Lib.hid h5
  have hq : CwR w c x y f B ((((w.alloc (.cells #[.string (natB c)] 43)).alloc (.cells #[.int .u64 (lo x : Int), .int .u64 (hi x : Int)] 27)).alloc (.cells #[.int .u64 (lo y : Int), .int .u64 (hi y : Int)] 27)).alloc (.cells #[.string ⟨#[]⟩] 43)) :=
    ⟨(((boxNew w _ _ _ rfl).alloc _).alloc _).alloc _, ((setNew _ x _ _ (by simp)).alloc _).alloc _, (setNew _ y _ _ (by simp)).alloc _, boxNew _ _ _ _ (by simp), (((hB.alloc _).alloc _).alloc _).alloc _,
      ((((Below.refl _ _).alloc (Nat.le_refl _) _).alloc (by simp) _).alloc (by simp; omega) _).alloc (by simp; omega) _⟩
  clear h1 h2 h3 h4 h5 hd0 hZ hm hR hE hc hd
  have hBl := hB.lt
  go_enter Tryd.func80, Tryd.ntmps80
  go_wp2_with fail
  replace hq := hq.drew
  have b0 := boxCell hq.c
  obtain ⟨b1, b2⟩ := cellsOf hq.x
  obtain ⟨b3, b4⟩ := cellsOf hq.y
  obtain ⟨b5, b6⟩ := cellsOf hq.f
  have b7 := boxCell hq.r
  have b8 := hq.r.frozen 0
  refine wp_region_heldE (fun w' => w'.cell? ⟨w.heap.size, 0, none⟩ = some (Value.string (natB c)) ∧ w'.cell? ⟨w.heap.size + 1, 0, none⟩ = some (Value.int .u64 (lo x : Int)) ∧ w'.cell? ⟨w.heap.size + 1, 1, none⟩ = some (Value.int .u64 (hi x : Int)) ∧ w'.cell? ⟨w.heap.size + 1 + 1, 0, none⟩ = some (Value.int .u64 (lo y : Int)) ∧ w'.cell? ⟨w.heap.size + 1 + 1, 1, none⟩ = some (Value.int .u64 (hi y : Int)) ∧ w'.cell? ⟨B, 0, none⟩ = some (Value.int .u64 (lo f : Int)) ∧ w'.cell? ⟨B, 1, none⟩ = some (Value.int .u64 (hi f : Int))) 9 (by kernel_rfl) ⟨b0, b1, b2, b3, b4, b5, b6⟩ (fun hS => ?_)
  refine wpAnyE_take (i := 0) (v := ?_) hS (by kernel_rfl) rfl (by kernel_rfl) (by kernel_rfl) (fun _ _ _ h => h) (Or.inl ⟨by rfl, ?_⟩) ?_
  rotate_left
  · (intro w hSw; go_simp; try with_reducible rfl)
  try simp only [Act.put, List.getElem_toArray, List.getElem_cons_succ, List.getElem_cons_zero, List.setIfInBounds_toArray, List.set_cons_zero, List.set_cons_succ]
  refine wpAnyE_take (i := 1) (v := ?_) hS (by kernel_rfl) rfl (by kernel_rfl) (by kernel_rfl) (fun _ _ _ h => h) (Or.inl ⟨by rfl, ?_⟩) ?_
  rotate_left
  · (intro w hSw; go_simp; try with_reducible rfl)
  try simp only [Act.put, List.getElem_toArray, List.getElem_cons_succ, List.getElem_cons_zero, List.setIfInBounds_toArray, List.set_cons_zero, List.set_cons_succ]
  refine wpAnyE_take (i := 2) (v := ?_) hS (by kernel_rfl) rfl (by kernel_rfl) (by kernel_rfl) (fun _ _ _ h => h) (Or.inl ⟨by rfl, ?_⟩) ?_
  rotate_left
  · (intro w hSw; go_simp; try with_reducible rfl)
  try simp only [Act.put, List.getElem_toArray, List.getElem_cons_succ, List.getElem_cons_zero, List.setIfInBounds_toArray, List.set_cons_zero, List.set_cons_succ]
  refine wpAnyE_take (i := 4) (v := ?_) hS (by kernel_rfl) rfl (by kernel_rfl) (by kernel_rfl) (fun _ _ _ h => h) (Or.inl ⟨by rfl, ?_⟩) ?_
  rotate_left
  · (intro w hSw; go_simp; try with_reducible rfl)
  try simp only [Act.put, List.getElem_toArray, List.getElem_cons_succ, List.getElem_cons_zero, List.setIfInBounds_toArray, List.set_cons_zero, List.set_cons_succ]
  refine wpAnyE_one 3 (by kernel_rfl) rfl (fun K hK => ?_)
  go_simp
  go_at_call 83
  (with_reducible refine (H1.out _).mono ?_)
  rintro e w9 ⟨rfl, hb9⟩
  replace hq := hq.below hb9
  have b0 := boxCell hq.c
  obtain ⟨b1, b2⟩ := cellsOf hq.x
  obtain ⟨b3, b4⟩ := cellsOf hq.y
  obtain ⟨b5, b6⟩ := cellsOf hq.f
  have b7 := boxCell hq.r
  have b8 := hq.r.frozen 0
  refine hK.out _ _ (fun _ => ⟨b0, b1, b2, b3, b4, b5, b6⟩) (fun hS => ?_)
  replace hS := hS (by decide)
  clear hK K
  try simp only [Act.put, List.getElem_toArray, List.getElem_cons_succ, List.getElem_cons_zero, List.setIfInBounds_toArray, List.set_cons_zero, List.set_cons_succ]
  refine wpAnyE_one 5 (by kernel_rfl) rfl (fun K hK => ?_)
  go_simp
  go_at_call 83
  (with_reducible refine (H2.out _).mono ?_)
  rintro e w9 ⟨rfl, hb9⟩
  replace hq := hq.below hb9
  have b0 := boxCell hq.c
  obtain ⟨b1, b2⟩ := cellsOf hq.x
  obtain ⟨b3, b4⟩ := cellsOf hq.y
  obtain ⟨b5, b6⟩ := cellsOf hq.f
  have b7 := boxCell hq.r
  have b8 := hq.r.frozen 0
  refine hK.out _ _ (fun _ => ⟨b0, b1, b2, b3, b4, b5, b6⟩) (fun hS => ?_)
  replace hS := hS (by decide)
  clear hK K
  try simp only [Act.put, List.getElem_toArray, List.getElem_cons_succ, List.getElem_cons_zero, List.setIfInBounds_toArray, List.set_cons_zero, List.set_cons_succ]
  refine wpAnyE_one 6 (by kernel_rfl) rfl (fun K hK => ?_)
  go_simp
  go_at_call 82
  (with_reducible refine (H3.out _).mono ?_)
  rintro e w9 ⟨rfl, hb9⟩
  replace hq := hq.below hb9
  have b0 := boxCell hq.c
  obtain ⟨b1, b2⟩ := cellsOf hq.x
  obtain ⟨b3, b4⟩ := cellsOf hq.y
  obtain ⟨b5, b6⟩ := cellsOf hq.f
  have b7 := boxCell hq.r
  have b8 := hq.r.frozen 0
  refine hK.out _ _ (fun _ => ⟨b0, b1, b2, b3, b4, b5, b6⟩) (fun hS => ?_)
  replace hS := hS (by decide)
  clear hK K
  try simp only [Act.put, List.getElem_toArray, List.getElem_cons_succ, List.getElem_cons_zero, List.setIfInBounds_toArray, List.set_cons_zero, List.set_cons_succ]
  refine wpAnyE_one 7 (by kernel_rfl) rfl (fun K hK => ?_)
  go_simp
  go_at_call 24
  (with_reducible refine (H4.out _).mono ?_)
  rintro e w9 ⟨rfl, hb9⟩
  replace hq := hq.below hb9
  have b0 := boxCell hq.c
  obtain ⟨b1, b2⟩ := cellsOf hq.x
  obtain ⟨b3, b4⟩ := cellsOf hq.y
  obtain ⟨b5, b6⟩ := cellsOf hq.f
  have b7 := boxCell hq.r
  have b8 := hq.r.frozen 0
  refine hK.out _ _ (fun _ => ⟨b0, b1, b2, b3, b4, b5, b6⟩) (fun hS => ?_)
  replace hS := hS (by decide)
  clear hK K
  try simp only [Act.put, List.getElem_toArray, List.getElem_cons_succ, List.getElem_cons_zero, List.setIfInBounds_toArray, List.set_cons_zero, List.set_cons_succ]
  refine wpAnyE_one 8 (by kernel_rfl) rfl (fun K hK => ?_)
  go_simp
  go_at_call 81
  (with_reducible refine (H5.out _).mono ?_)
  rintro e w9 ⟨rfl, hb9⟩
  replace hq := hq.below hb9
  have b0 := boxCell hq.c
  obtain ⟨b1, b2⟩ := cellsOf hq.x
  obtain ⟨b3, b4⟩ := cellsOf hq.y
  obtain ⟨b5, b6⟩ := cellsOf hq.f
  have b7 := boxCell hq.r
  have b8 := hq.r.frozen 0
  refine hK.out _ _ (fun _ => ⟨b0, b1, b2, b3, b4, b5, b6⟩) (fun hS => ?_)
  replace hS := hS (by decide)
  clear hK K
  try simp only [Act.put, List.getElem_toArray, List.getElem_cons_succ, List.getElem_cons_zero, List.setIfInBounds_toArray, List.set_cons_zero, List.set_cons_succ]
  refine wpAnyE_one 9 (by kernel_rfl) rfl (fun K hK => ?_)
  go_simp
  refine hK.out _ _ (fun h => absurd rfl h) (fun _ => ?_)
  clear hK K
  refine wpAnyE_done (by kernel_rfl) ?_ _
  go_wp2
  exact ret_nat rfl _ rfl (boxSet hq.r _) rfl ⟨rfl, hq.bl.setCell (by simp <;> omega) _⟩
/-- What lies in memory ahead of a round of count. -/
structure CoR (w : World) (N : Nt) (A : Option Addr) (c g q a f : Nat) (L : List Nat) (wr : World) : Prop where
  ls : wr.rowIs g 96 3 (lsF N A c q)
  own : wr.rowIs q 27 (N.l.length * 2) (setsF (Cs.own N.l))
  a : wr.rowIs w.heap.size 27 2 (setF a)
  f : wr.rowIs (w.heap.size + 1) 27 2 (setF f)
  r : wr.rowIs (w.heap.size + 1 + 1) 43 1 (fun _ => .string ⟨#[]⟩)
  out : wr.rowIs (w.heap.size + 1 + 1 + 1) 43 N.l.length (natsF L)
  bl : Below w.heap.size w wr
section
variable {w wr w' : World} {N : Nt} {A : Option Addr} {c g q a f : Nat} {L : List Nat} {T : Nat}
theorem CoR.below (h : CoR w N A c g q a f L wr) (hb : Below wr.heap.size wr w') : CoR w N A c g q a f L w' := ⟨rowBelow h.ls hb, rowBelow h.own hb, rowBelow h.a hb, rowBelow h.f hb, rowBelow h.r hb, rowBelow h.out hb, Cs.Below.trans' h.bl hb h.bl.size⟩
theorem CoR.drew (h : CoR w N A c g q a f L wr) : CoR w N A c g q a f L wr.drew := h.below (belowDrewN (Below.refl _ _) 1)
theorem CoR.alloc (h : CoR w N A c g q a f L wr) (o : Obj) : CoR w N A c g q a f L (wr.alloc o) := h.below ((Below.refl _ _).alloc (Nat.le_refl _) _)
theorem CoR.start (h : CoR w N A c g q a f L wr) : CoR w N A c g q a f (L ++ [0]) wr := ⟨h.ls, h.own, h.a, h.f, h.r, natsStart h.out, h.bl⟩
theorem CoR.set (h : CoR w N A c g q a f (L ++ [T]) wr) (hg : g < w.heap.size) (hq : q < w.heap.size) (s j : Nat) (hj : j = L.length) : CoR w N A c g q a f (L ++ [s]) (wr.setCell ⟨w.heap.size + 1 + 1 + 1, j, none⟩ (.string (natB s))) :=
  ⟨h.ls.setOther (by simp <;> omega) _, h.own.setOther (by simp <;> omega) _, h.a.setOther (by simp <;> omega) _, h.f.setOther (by simp <;> omega) _, h.r.setOther (by simp <;> omega) _, natsLast h.out j s hj, h.bl.setCell (by simp <;> omega) _⟩
theorem CoR.two (h : CoR w N A c g q a f (L ++ [T]) wr) (k : Nat) (hk : k < N.l.length) (hL : L.length = k) (j : Nat) (hj : j < k) (R : Nat) (hR : L.getD j 0 = R) {Ok Oj : Nat} (hOk : (Cs.own N.l).getD k 0 = Ok) (hOj : (Cs.own N.l).getD j 0 = Oj) :
    wr.cell? ⟨w.heap.size + 1 + 1 + 1, k, none⟩ = some (.string (natB T)) ∧ wr.cell? ⟨w.heap.size + 1 + 1 + 1, j, none⟩ = some (.string (natB R)) ∧
    wr.cell? ⟨g, 2, none⟩ = some (.slice (some ⟨q, 0, none⟩) N.l.length N.l.length) ∧ wr.cell? ⟨q, k * 2, none⟩ = some (.int .u64 (lo Ok : Int)) ∧ wr.cell? ⟨q, k * 2 + 1, none⟩ = some (.int .u64 (hi Ok : Int)) ∧ wr.cell? ⟨q, j * 2, none⟩ = some (.int .u64 (lo Oj : Int)) ∧ wr.cell? ⟨q, j * 2 + 1, none⟩ = some (.int .u64 (hi Oj : Int)) ∧
    wr.frozen? ⟨w.heap.size + 1 + 1 + 1, k, none⟩ = false := by
  subst hOk; subst hOj
  obtain ⟨s1, s2, _, _⟩ := setsCells h.own k (by omega)
  obtain ⟨s3, s4, _, _⟩ := setsCells h.own j (by omega)
  exact ⟨natsAt h.out k T hk (by rw [getD_snoc, if_pos hL.symm]), natsAt h.out j R (by omega) (by rw [getD_snoc, if_neg (by omega)]; exact hR), (lsCells h.ls).2.2, s1, s2, s3, s4, h.out.frozen _⟩
end
set_option maxRecDepth 100000 in
set_option maxHeartbeats 8000000 in
theorem lcount_any (w : World) (N : Nt) (A : Option Addr) (c g q a f : Nat) (hl : LsAt w N A c g q) (hN : NtAt w w.heap.size A N.l) (hv : vld N = true) (hsh : shortB N = true) :
    Calls Tryd.prog 51 #[.pointer (some ⟨g, 0, none⟩), setV a, setV f] w fun e w' => e = .returned (natV (cfN N a f)) ∧ Below w.heap.size w w' := by
  obtain ⟨hn0, hn1, hl0, hl1⟩ := vld_bounds hv
  have hfm := fun k hk => vld_formed hv k hk
  have hpt := fun k hk m => RW_part hsh a f k hk m
  have hpre := fun k j hk => RW_pre hsh a f k j hk
  have hend : cfN N a f = (scan ((RW a f).step (Cs.own N.l)) [] N.l).getD (N.l.length - 1) 0 * 2 ^ crd (minus (minus (allTo N.n) ((Cs.own N.l).getD (N.l.length - 1) 0)) f) := by
    unfold cfN Rg.sum
    rw [RW_gap]; rfl
  obtain ⟨TN, hTN⟩ : ∃ t, cfN N a f = t := ⟨_, rfl⟩
  rw [hTN] at hend ⊢
  have HEND := Lib.hid hend
  have HF := Lib.hid hfm
  have HPT := Lib.hid hpt
  have HPRE := Lib.hid hpre
  have hgl := hl.row.lt
  have hql := hl.sets.lt
  have hmk := mk_nat N.l.length (by omega)
  have hq0 : CoR w N A c g q a f [] ((((w.alloc (.cells #[.int .u64 (lo a : Int), .int .u64 (hi a : Int)] 27)).alloc (.cells #[.int .u64 (lo f : Int), .int .u64 (hi f : Int)] 27)).alloc (.cells #[.string ⟨#[]⟩] 43)).alloc (.cells (madeCells #[.string ⟨#[]⟩] N.l.length) 43)) :=
    ⟨(((hl.row.alloc _).alloc _).alloc _).alloc _, (((hl.sets.alloc _).alloc _).alloc _).alloc _, (((setNew w a _ _ rfl).alloc _).alloc _).alloc _, ((setNew _ f _ _ (by simp)).alloc _).alloc _, (boxNew _ _ _ _ (by simp)).alloc _, natsMade _ _ _ _ (by simp), ((((Below.refl _ _).alloc (Nat.le_refl _) _).alloc (by simp) _).alloc (by simp; omega) _).alloc (by simp; omega) _⟩
  have HQ0 := Lib.hid hq0
  obtain ⟨c1, c2, c3⟩ := lsCells hl.row
  obtain ⟨d1, d2, d3⟩ := lsCells hq0.ls
  obtain ⟨g1, g2, g3⟩ := lsCells (((hl.row.alloc (.cells #[.int .u64 (lo a : Int), .int .u64 (hi a : Int)] 27)).alloc (.cells #[.int .u64 (lo f : Int), .int .u64 (hi f : Int)] 27)).alloc (.cells #[.string ⟨#[]⟩] 43))
  have hof : ∀ W, Calls Tryd.prog 20 #[.int .u64 1] W fun e w' => e = .returned (natV 1) ∧ Below W.heap.size W w' := fun W => of_any W 1 (by decide)
  have HOF := Lib.hid hof
  clear hend hfm hq0 hl hpt hpre hof
  go_enter Tryd.func51, Tryd.ntmps51
  go_wp2
  go_loopw [30] (fun t wr => ∃ k : Nat, k ≤ N.l.length ∧ t = .int .i64 k ∧ CoR w N A c g q a f (scan ((RW a f).step (own N.l)) [] (N.l.take k)) wr) (fun t _ => N.l.length - (intOf t).toNat)
  case atStart => exact ⟨0, by omega, rfl, HQ0.out⟩
  case round =>
    clear HQ0 c1 c2 c3 d1 d2 d3 g1 g2 g3 hmk
    obtain ⟨k, hk, rfl, hE⟩ := hrel
    by_cases hlt : k < N.l.length
    · obtain ⟨b, o, rfl, hbB, hcs⟩ := hN (by omega)
      have hnd := hcs k hlt
      clear hcs
      have ht := scan_take ((RW a f).step (own N.l)) N.l k hlt
      have hfk := HF.out k hlt
      have hpt := fun m => HPT.out k hlt m
      have hpre := fun j => HPRE.out k j hk
      obtain ⟨x, hx⟩ : ∃ x, N.l[k] = x := ⟨_, rfl⟩
      rw [hx] at hnd ht hfk
      simp only [hx] at hpt
      have hks := formed_kinds hfk
      have hmem := formed_mem hfk
      have hlo := fun h2 => formed_litOk hfk h2
      have hLl := scan_len ((RW a f).step (own N.l)) N.l k hk
      have hnil : x.kind ≠ 3 → x.kind ≠ 4 → x.ins = [] := fun h3 h4 => by
        rcases formed_kind hfk with ⟨_, h⟩ | h | h
        · exact List.length_eq_zero_iff.1 h
        · exact absurd h h3
        · exact absurd h h4
      obtain ⟨L, hL⟩ : ∃ L, scan ((RW a f).step (own N.l)) [] (N.l.take k) = L := ⟨_, rfl⟩
      rw [hL] at hE ht hLl
      simp only [hL] at hpt hpre
      obtain ⟨kd, lt, ins⟩ := x
      simp only at hks hmem hlo hnil hpt
      obtain ⟨hk1, hk2, ⟨A', c', hk3, hrd⟩, hr1, hr2, hr3, hr4⟩ := hnd
      simp only at hk1 hk2 hk3 hrd hr1 hr2 hr3 hr4
      replace hk1 := below_cell hE.bl hbB hk1
      replace hk2 := below_cell hE.bl hbB hk2
      replace hk3 := below_cell hE.bl hbB hk3
      have HRW := Lib.hid hrd
      have HMEM := Lib.hid hmem
      have HT := Lib.hid ht
      have HLO := Lib.hid hlo
      have HNIL := Lib.hid hnil
      have HLL := Lib.hid hLl
      have HPT2 := Lib.hid hpt
      have HPRE2 := Lib.hid hpre
      have hi0 : (0 : Int) ≤ (k : Int) := by omega
      have hi1 : (k : Int) < (N.l.length : Int) := by omega
      obtain ⟨s1, s2, s3⟩ := lsCells hE.ls
      have o1 := natsAt hE.start.out k 0 hlt (by rw [getD_snoc, if_pos hLl.symm])
      have o2 := hE.out.frozen k
      have hQ := hE.out.lt
      clear hmem ht hlo hnil hLl hrd hx hL hfk hr1 hr3 hpt hpre
      rcases hks with rfl | rfl | rfl | rfl | rfl
      · as_aux_lemma =>
        have hst : (RW a f).step (own N.l) L ⟨0, lt, ins⟩ = 0 := by rw [HNIL.out (by decide) (by decide)]; rfl
        have hnx := HT.out
        rw [hst] at hnx
        have HNX := Lib.hid hnx
        have HX := Lib.hid (hE.alloc (.cells #[.int .i64 0, .int .i64 lt, .slice A' ins.length c'] 41)).start
        clear hst hnx hE
        go_wp2
        go_roundw
        case rel => exact ⟨k + 1, by omega, by go_num, by rw [HNX.out]; exact HX.out⟩
        case measure => simp [intOf]; omega
      · as_aux_lemma =>
        have hst : (RW a f).step (own N.l) L ⟨1, lt, ins⟩ = 1 := by rw [HNIL.out (by decide) (by decide)]; rfl
        have hnx := HT.out
        rw [hst] at hnx
        have HNX := Lib.hid hnx
        have HX := Lib.hid (hE.start.alloc (.cells #[.int .i64 1, .int .i64 lt, .slice A' ins.length c'] 41))
        clear hst hnx hE
        go_wp2_with (go_at_call 20; (with_reducible refine (HOF.out _).mono ?_); rintro e w5 ⟨rfl, hb5⟩; have q1 := HX.out.below hb5; have p1 := natsAt q1.out k 0 hlt (by rw [getD_snoc, if_pos HLL.out.symm]); have p2 := q1.out.frozen k)
        go_roundw
        case rel => exact ⟨k + 1, by omega, by go_num, by rw [HNX.out]; exact q1.set hgl hql 1 k HLL.out.symm⟩
        case measure => simp [intOf]; omega
      · as_aux_lemma =>
        obtain ⟨hlit, hin⟩ := HLO.out rfl
        obtain ⟨m, hm1, hm2, hlt2⟩ := litOk_split hlit
        have hm128 := hm2
        have hha := fun W => has_any W a (m : Int)
        have hhf := fun W => has_any W f (m : Int)
        obtain ⟨B, hB⟩ : ∃ B, has a (m : Int) = B := ⟨_, rfl⟩
        obtain ⟨C, hC⟩ : ∃ B, has f (m : Int) = B := ⟨_, rfl⟩
        simp only [hB] at hha
        simp only [hC] at hhf
        obtain ⟨hv1, hv2⟩ := litVar_nat m (by omega)
        have HHA := Lib.hid hha
        have HHF := Lib.hid hhf
        rcases hlt2 with rfl | rfl
        · as_aux_lemma =>
          have hst : (RW a f).step (own N.l) L ⟨2, (m : Int), ins⟩ = if C = true ∧ B = false then 0 else 1 := by
            rw [hin]
            show fW a f ((m : Int)) = _
            unfold fW
            rw [hv1, hB, hC, decide_eq_true (show (0 : Int) < (m : Int) by omega)]
            cases B <;> cases C <;> rfl
          have hp1 : max (m : Int) (-(m : Int)) = (m : Int) := by omega
          have hp2 : (0 : Int) < (m : Int) := by omega
          have hp5 : 0 < m := hm1
          have hnx := HT.out
          rw [hst] at hnx
          have HNX := Lib.hid hnx
          have hq := hE.start.alloc (.cells #[.int .i64 2, .int .i64 (m : Int), .slice A' ins.length c'] 41)
          have hnr := ndNew wr ⟨2, (m : Int), ins⟩ A' c' 41 _ rfl
          have HQ := Lib.hid (And.intro hq hnr)
          clear hst hnx hq hnr hha hhf hB hC hv1 hv2 hlit hin HLO HT hE
          go_wp2
          obtain ⟨q1, q2⟩ := HQ.out
          replace q1 := q1.drew
          replace q2 := q2.drew
          obtain ⟨n1, n2, n3⟩ := ndCells q2
          obtain ⟨a1, a2⟩ := cellsOf q1.a
          obtain ⟨b1, b2⟩ := cellsOf q1.f
          have p1 := natsAt q1.out k 0 hlt (by rw [getD_snoc, if_pos HLL.out.symm])
          have p2 := q1.out.frozen k
          clear HQ
          cases C
          · as_aux_lemma =>
            refine wp_region_heldE (fun w' => w'.cell? ⟨w.heap.size, 0, none⟩ = some (Value.int .u64 (lo a : Int)) ∧ w'.cell? ⟨w.heap.size, 1, none⟩ = some (Value.int .u64 (hi a : Int)) ∧ w'.cell? ⟨w.heap.size + 1, 0, none⟩ = some (Value.int .u64 (lo f : Int)) ∧ w'.cell? ⟨w.heap.size + 1, 1, none⟩ = some (Value.int .u64 (hi f : Int)) ∧ w'.cell? ⟨wr.heap.size, 1, none⟩ = some (Value.int .i64 (m : Int))) 12 (by kernel_rfl) ⟨a1, a2, b1, b2, n2⟩ (fun hS => ?_)
            refine wpAnyE_take (i := 0) (v := ?_) hS (by kernel_rfl) rfl (by kernel_rfl) (by kernel_rfl) (fun _ _ _ h => h) (Or.inl ⟨by rfl, ?_⟩) ?_
            rotate_left
            · as_aux_lemma =>
              (intro w hSw; go_simp; try with_reducible rfl)
            try simp only [Act.put, List.getElem_toArray, List.getElem_cons_succ, List.getElem_cons_zero, List.setIfInBounds_toArray, List.set_cons_zero, List.set_cons_succ]
            refine wpAnyE_take (i := 1) (v := ?_) hS (by kernel_rfl) rfl (by kernel_rfl) (by kernel_rfl) (fun _ _ _ h => h) (Or.inl ⟨by rfl, ?_⟩) ?_
            rotate_left
            · as_aux_lemma =>
              (intro w hSw; go_simp; try with_reducible rfl)
            try simp only [Act.put, List.getElem_toArray, List.getElem_cons_succ, List.getElem_cons_zero, List.setIfInBounds_toArray, List.set_cons_zero, List.set_cons_succ]
            refine wpAnyE_one 2 (by kernel_rfl) rfl (fun K hK => ?_)
            go_simp
            go_at_call 75
            (with_reducible refine (HHF.out _).mono ?_)
            rintro e w5 ⟨rfl, hb5⟩
            replace q1 := q1.below hb5
            replace q2 := rowBelow q2 hb5
            obtain ⟨n1, n2, n3⟩ := ndCells q2
            obtain ⟨a1, a2⟩ := cellsOf q1.a
            obtain ⟨b1, b2⟩ := cellsOf q1.f
            have p1 := natsAt q1.out k 0 hlt (by rw [getD_snoc, if_pos HLL.out.symm])
            have p2 := q1.out.frozen k
            refine hK.out _ _ (fun _ => ⟨a1, a2, b1, b2, n2⟩) (fun hS => ?_)
            replace hS := hS (by decide)
            clear hK K
            try simp only [Act.put, List.getElem_toArray, List.getElem_cons_succ, List.getElem_cons_zero, List.setIfInBounds_toArray, List.set_cons_zero, List.set_cons_succ]
            refine wpAnyE_take (i := 3) (v := ?_) hS (by kernel_rfl) rfl (by kernel_rfl) (by kernel_rfl) (fun _ _ _ h => h) (Or.inl ⟨by rfl, ?_⟩) ?_
            rotate_left
            · as_aux_lemma =>
              (intro w hSw; go_simp; try with_reducible rfl)
            try simp only [Act.put, List.getElem_toArray, List.getElem_cons_succ, List.getElem_cons_zero, List.setIfInBounds_toArray, List.set_cons_zero, List.set_cons_succ]
            refine wpAnyE_take (i := 4) (v := ?_) hS (by kernel_rfl) rfl (by kernel_rfl) (by kernel_rfl) (fun _ _ _ h => h) (Or.inl ⟨by rfl, ?_⟩) ?_
            rotate_left
            · as_aux_lemma =>
              (intro w hSw; go_simp; try with_reducible rfl)
            try simp only [Act.put, List.getElem_toArray, List.getElem_cons_succ, List.getElem_cons_zero, List.setIfInBounds_toArray, List.set_cons_zero, List.set_cons_succ]
            refine wpAnyE_take (i := 5) (v := undef) hS (by kernel_rfl) rfl (by kernel_rfl) (by kernel_rfl) (fun _ _ _ h => h) (Or.inr ⟨by rfl, rfl⟩) ?_
            simp only [Act.put, List.getElem_toArray, List.getElem_cons_succ, List.getElem_cons_zero, List.setIfInBounds_toArray, List.set_cons_zero, List.set_cons_succ]
            refine wpAnyE_take (i := 6) (v := undef) hS (by kernel_rfl) rfl (by kernel_rfl) (by kernel_rfl) (fun _ _ _ h => h) (Or.inr ⟨by rfl, rfl⟩) ?_
            simp only [Act.put, List.getElem_toArray, List.getElem_cons_succ, List.getElem_cons_zero, List.setIfInBounds_toArray, List.set_cons_zero, List.set_cons_succ]
            refine wpAnyE_take (i := 7) (v := undef) hS (by kernel_rfl) rfl (by kernel_rfl) (by kernel_rfl) (fun _ _ _ h => h) (Or.inr ⟨by rfl, rfl⟩) ?_
            simp only [Act.put, List.getElem_toArray, List.getElem_cons_succ, List.getElem_cons_zero, List.setIfInBounds_toArray, List.set_cons_zero, List.set_cons_succ]
            refine wpAnyE_take (i := 8) (v := undef) hS (by kernel_rfl) rfl (by kernel_rfl) (by kernel_rfl) (fun _ _ _ h => h) (Or.inr ⟨by rfl, rfl⟩) ?_
            simp only [Act.put, List.getElem_toArray, List.getElem_cons_succ, List.getElem_cons_zero, List.setIfInBounds_toArray, List.set_cons_zero, List.set_cons_succ]
            refine wpAnyE_take (i := 9) (v := undef) hS (by kernel_rfl) rfl (by kernel_rfl) (by kernel_rfl) (fun _ _ _ h => h) (Or.inr ⟨by rfl, rfl⟩) ?_
            simp only [Act.put, List.getElem_toArray, List.getElem_cons_succ, List.getElem_cons_zero, List.setIfInBounds_toArray, List.set_cons_zero, List.set_cons_succ]
            refine wpAnyE_take (i := 10) (v := undef) hS (by kernel_rfl) rfl (by kernel_rfl) (by kernel_rfl) (fun _ _ _ h => h) (Or.inr ⟨by rfl, rfl⟩) ?_
            simp only [Act.put, List.getElem_toArray, List.getElem_cons_succ, List.getElem_cons_zero, List.setIfInBounds_toArray, List.set_cons_zero, List.set_cons_succ]
            refine wpAnyE_take (i := 11) (v := undef) hS (by kernel_rfl) rfl (by kernel_rfl) (by kernel_rfl) (fun _ _ _ h => h) (Or.inr ⟨by rfl, rfl⟩) ?_
            simp only [Act.put, List.getElem_toArray, List.getElem_cons_succ, List.getElem_cons_zero, List.setIfInBounds_toArray, List.set_cons_zero, List.set_cons_succ]
            refine wpAnyE_one 12 (by kernel_rfl) rfl (fun K hK => ?_)
            go_simp
            refine hK.out _ _ (fun h => absurd rfl h) (fun _ => ?_)
            clear hK K
            refine wpAnyE_done (by kernel_rfl) ?_ _
            have HX2 := Lib.hid (HNX.out.trans (by rw [if_neg (by simp)]))
            go_wp2_with (go_at_call 20; (with_reducible refine (HOF.out _).mono ?_); rintro e w7 ⟨rfl, hb7⟩; replace q1 := q1.below hb7; have p1 := natsAt q1.out k 0 hlt (by rw [getD_snoc, if_pos HLL.out.symm]); have p2 := q1.out.frozen k)
            go_roundw
            case rel => exact ⟨k + 1, by omega, by go_num, by rw [HX2.out]; exact q1.set hgl hql 1 k HLL.out.symm⟩
            case measure => simp [intOf]; omega
          · as_aux_lemma =>
            cases B
            · as_aux_lemma =>
              refine wp_region_heldE (fun w' => w'.cell? ⟨w.heap.size, 0, none⟩ = some (Value.int .u64 (lo a : Int)) ∧ w'.cell? ⟨w.heap.size, 1, none⟩ = some (Value.int .u64 (hi a : Int)) ∧ w'.cell? ⟨w.heap.size + 1, 0, none⟩ = some (Value.int .u64 (lo f : Int)) ∧ w'.cell? ⟨w.heap.size + 1, 1, none⟩ = some (Value.int .u64 (hi f : Int)) ∧ w'.cell? ⟨wr.heap.size, 1, none⟩ = some (Value.int .i64 (m : Int))) 12 (by kernel_rfl) ⟨a1, a2, b1, b2, n2⟩ (fun hS => ?_)
              refine wpAnyE_take (i := 0) (v := ?_) hS (by kernel_rfl) rfl (by kernel_rfl) (by kernel_rfl) (fun _ _ _ h => h) (Or.inl ⟨by rfl, ?_⟩) ?_
              rotate_left
              · (intro w hSw; go_simp; try with_reducible rfl)
              try simp only [Act.put, List.getElem_toArray, List.getElem_cons_succ, List.getElem_cons_zero, List.setIfInBounds_toArray, List.set_cons_zero, List.set_cons_succ]
              refine wpAnyE_take (i := 1) (v := ?_) hS (by kernel_rfl) rfl (by kernel_rfl) (by kernel_rfl) (fun _ _ _ h => h) (Or.inl ⟨by rfl, ?_⟩) ?_
              rotate_left
              · (intro w hSw; go_simp; try with_reducible rfl)
              try simp only [Act.put, List.getElem_toArray, List.getElem_cons_succ, List.getElem_cons_zero, List.setIfInBounds_toArray, List.set_cons_zero, List.set_cons_succ]
              refine wpAnyE_one 2 (by kernel_rfl) rfl (fun K hK => ?_)
              go_simp
              go_at_call 75
              (with_reducible refine (HHF.out _).mono ?_)
              rintro e w5 ⟨rfl, hb5⟩
              replace q1 := q1.below hb5
              replace q2 := rowBelow q2 hb5
              obtain ⟨n1, n2, n3⟩ := ndCells q2
              obtain ⟨a1, a2⟩ := cellsOf q1.a
              obtain ⟨b1, b2⟩ := cellsOf q1.f
              have p1 := natsAt q1.out k 0 hlt (by rw [getD_snoc, if_pos HLL.out.symm])
              have p2 := q1.out.frozen k
              refine hK.out _ _ (fun _ => ⟨a1, a2, b1, b2, n2⟩) (fun hS => ?_)
              replace hS := hS (by decide)
              clear hK K
              try simp only [Act.put, List.getElem_toArray, List.getElem_cons_succ, List.getElem_cons_zero, List.setIfInBounds_toArray, List.set_cons_zero, List.set_cons_succ]
              refine wpAnyE_take (i := 3) (v := ?_) hS (by kernel_rfl) rfl (by kernel_rfl) (by kernel_rfl) (fun _ _ _ h => h) (Or.inl ⟨by rfl, ?_⟩) ?_
              rotate_left
              · (intro w hSw; go_simp; try with_reducible rfl)
              try simp only [Act.put, List.getElem_toArray, List.getElem_cons_succ, List.getElem_cons_zero, List.setIfInBounds_toArray, List.set_cons_zero, List.set_cons_succ]
              refine wpAnyE_take (i := 4) (v := ?_) hS (by kernel_rfl) rfl (by kernel_rfl) (by kernel_rfl) (fun _ _ _ h => h) (Or.inl ⟨by rfl, ?_⟩) ?_
              rotate_left
              · (intro w hSw; go_simp; try with_reducible rfl)
              try simp only [Act.put, List.getElem_toArray, List.getElem_cons_succ, List.getElem_cons_zero, List.setIfInBounds_toArray, List.set_cons_zero, List.set_cons_succ]
              refine wpAnyE_take (i := 5) (v := ?_) hS (by kernel_rfl) rfl (by kernel_rfl) (by kernel_rfl) (fun _ _ _ h => h) (Or.inl ⟨by rfl, ?_⟩) ?_
              rotate_left
              · (intro w hSw; go_simp; try with_reducible rfl)
              try simp only [Act.put, List.getElem_toArray, List.getElem_cons_succ, List.getElem_cons_zero, List.setIfInBounds_toArray, List.set_cons_zero, List.set_cons_succ]
              refine wpAnyE_take (i := 6) (v := ?_) hS (by kernel_rfl) rfl (by kernel_rfl) (by kernel_rfl) (fun _ _ _ h => h) (Or.inl ⟨by rfl, ?_⟩) ?_
              rotate_left
              · (intro w hSw; go_simp; try with_reducible rfl)
              try simp only [Act.put, List.getElem_toArray, List.getElem_cons_succ, List.getElem_cons_zero, List.setIfInBounds_toArray, List.set_cons_zero, List.set_cons_succ]
              refine wpAnyE_take (i := 8) (v := ?_) hS (by kernel_rfl) rfl (by kernel_rfl) (by kernel_rfl) (fun _ _ _ h => h) (Or.inl ⟨by rfl, ?_⟩) ?_
              rotate_left
              · (intro w hSw; go_simp; try with_reducible rfl)
              try simp only [Act.put, List.getElem_toArray, List.getElem_cons_succ, List.getElem_cons_zero, List.setIfInBounds_toArray, List.set_cons_zero, List.set_cons_succ]
              refine wpAnyE_take (i := 9) (v := ?_) hS (by kernel_rfl) rfl (by kernel_rfl) (by kernel_rfl) (fun _ _ _ h => h) (Or.inl ⟨by rfl, ?_⟩) ?_
              rotate_left
              · (intro w hSw; go_simp; try with_reducible rfl)
              try simp only [Act.put, List.getElem_toArray, List.getElem_cons_succ, List.getElem_cons_zero, List.setIfInBounds_toArray, List.set_cons_zero, List.set_cons_succ]
              refine wpAnyE_take (i := 10) (v := ?_) hS (by kernel_rfl) rfl (by kernel_rfl) (by kernel_rfl) (fun _ _ _ h => h) (Or.inl ⟨by rfl, ?_⟩) ?_
              rotate_left
              · (intro w hSw; go_simp; try with_reducible rfl)
              try simp only [Act.put, List.getElem_toArray, List.getElem_cons_succ, List.getElem_cons_zero, List.setIfInBounds_toArray, List.set_cons_zero, List.set_cons_succ]
              refine wpAnyE_one 7 (by kernel_rfl) rfl (fun K hK => ?_)
              go_simp
              go_at_call 75
              (with_reducible refine (HHA.out _).mono ?_)
              rintro e w5 ⟨rfl, hb5⟩
              replace q1 := q1.below hb5
              replace q2 := rowBelow q2 hb5
              obtain ⟨n1, n2, n3⟩ := ndCells q2
              obtain ⟨a1, a2⟩ := cellsOf q1.a
              obtain ⟨b1, b2⟩ := cellsOf q1.f
              have p1 := natsAt q1.out k 0 hlt (by rw [getD_snoc, if_pos HLL.out.symm])
              have p2 := q1.out.frozen k
              refine hK.out _ _ (fun _ => ⟨a1, a2, b1, b2, n2⟩) (fun hS => ?_)
              replace hS := hS (by decide)
              clear hK K
              try simp only [Act.put, List.getElem_toArray, List.getElem_cons_succ, List.getElem_cons_zero, List.setIfInBounds_toArray, List.set_cons_zero, List.set_cons_succ]
              refine wpAnyE_take (i := 11) (v := ?_) hS (by kernel_rfl) rfl (by kernel_rfl) (by kernel_rfl) (fun _ _ _ h => h) (Or.inl ⟨by rfl, ?_⟩) ?_
              rotate_left
              · (intro w hSw; go_simp; try with_reducible rfl)
              try simp only [Act.put, List.getElem_toArray, List.getElem_cons_succ, List.getElem_cons_zero, List.setIfInBounds_toArray, List.set_cons_zero, List.set_cons_succ]
              refine wpAnyE_one 12 (by kernel_rfl) rfl (fun K hK => ?_)
              go_simp
              refine hK.out _ _ (fun h => absurd rfl h) (fun _ => ?_)
              clear hK K
              refine wpAnyE_done (by kernel_rfl) ?_ _
              have HX2 := Lib.hid (HNX.out.trans (by rw [if_pos (by simp)]))
              go_wp2
              go_roundw
              case rel => exact ⟨k + 1, by omega, by go_num, by rw [HX2.out]; exact q1⟩
              case measure => simp [intOf]; omega
            · as_aux_lemma =>
              refine wp_region_heldE (fun w' => w'.cell? ⟨w.heap.size, 0, none⟩ = some (Value.int .u64 (lo a : Int)) ∧ w'.cell? ⟨w.heap.size, 1, none⟩ = some (Value.int .u64 (hi a : Int)) ∧ w'.cell? ⟨w.heap.size + 1, 0, none⟩ = some (Value.int .u64 (lo f : Int)) ∧ w'.cell? ⟨w.heap.size + 1, 1, none⟩ = some (Value.int .u64 (hi f : Int)) ∧ w'.cell? ⟨wr.heap.size, 1, none⟩ = some (Value.int .i64 (m : Int))) 12 (by kernel_rfl) ⟨a1, a2, b1, b2, n2⟩ (fun hS => ?_)
              refine wpAnyE_take (i := 0) (v := ?_) hS (by kernel_rfl) rfl (by kernel_rfl) (by kernel_rfl) (fun _ _ _ h => h) (Or.inl ⟨by rfl, ?_⟩) ?_
              rotate_left
              · (intro w hSw; go_simp; try with_reducible rfl)
              try simp only [Act.put, List.getElem_toArray, List.getElem_cons_succ, List.getElem_cons_zero, List.setIfInBounds_toArray, List.set_cons_zero, List.set_cons_succ]
              refine wpAnyE_take (i := 1) (v := ?_) hS (by kernel_rfl) rfl (by kernel_rfl) (by kernel_rfl) (fun _ _ _ h => h) (Or.inl ⟨by rfl, ?_⟩) ?_
              rotate_left
              · (intro w hSw; go_simp; try with_reducible rfl)
              try simp only [Act.put, List.getElem_toArray, List.getElem_cons_succ, List.getElem_cons_zero, List.setIfInBounds_toArray, List.set_cons_zero, List.set_cons_succ]
              refine wpAnyE_one 2 (by kernel_rfl) rfl (fun K hK => ?_)
              go_simp
              go_at_call 75
              (with_reducible refine (HHF.out _).mono ?_)
              rintro e w5 ⟨rfl, hb5⟩
              replace q1 := q1.below hb5
              replace q2 := rowBelow q2 hb5
              obtain ⟨n1, n2, n3⟩ := ndCells q2
              obtain ⟨a1, a2⟩ := cellsOf q1.a
              obtain ⟨b1, b2⟩ := cellsOf q1.f
              have p1 := natsAt q1.out k 0 hlt (by rw [getD_snoc, if_pos HLL.out.symm])
              have p2 := q1.out.frozen k
              refine hK.out _ _ (fun _ => ⟨a1, a2, b1, b2, n2⟩) (fun hS => ?_)
              replace hS := hS (by decide)
              clear hK K
              try simp only [Act.put, List.getElem_toArray, List.getElem_cons_succ, List.getElem_cons_zero, List.setIfInBounds_toArray, List.set_cons_zero, List.set_cons_succ]
              refine wpAnyE_take (i := 3) (v := ?_) hS (by kernel_rfl) rfl (by kernel_rfl) (by kernel_rfl) (fun _ _ _ h => h) (Or.inl ⟨by rfl, ?_⟩) ?_
              rotate_left
              · (intro w hSw; go_simp; try with_reducible rfl)
              try simp only [Act.put, List.getElem_toArray, List.getElem_cons_succ, List.getElem_cons_zero, List.setIfInBounds_toArray, List.set_cons_zero, List.set_cons_succ]
              refine wpAnyE_take (i := 4) (v := ?_) hS (by kernel_rfl) rfl (by kernel_rfl) (by kernel_rfl) (fun _ _ _ h => h) (Or.inl ⟨by rfl, ?_⟩) ?_
              rotate_left
              · (intro w hSw; go_simp; try with_reducible rfl)
              try simp only [Act.put, List.getElem_toArray, List.getElem_cons_succ, List.getElem_cons_zero, List.setIfInBounds_toArray, List.set_cons_zero, List.set_cons_succ]
              refine wpAnyE_take (i := 5) (v := ?_) hS (by kernel_rfl) rfl (by kernel_rfl) (by kernel_rfl) (fun _ _ _ h => h) (Or.inl ⟨by rfl, ?_⟩) ?_
              rotate_left
              · (intro w hSw; go_simp; try with_reducible rfl)
              try simp only [Act.put, List.getElem_toArray, List.getElem_cons_succ, List.getElem_cons_zero, List.setIfInBounds_toArray, List.set_cons_zero, List.set_cons_succ]
              refine wpAnyE_take (i := 6) (v := ?_) hS (by kernel_rfl) rfl (by kernel_rfl) (by kernel_rfl) (fun _ _ _ h => h) (Or.inl ⟨by rfl, ?_⟩) ?_
              rotate_left
              · (intro w hSw; go_simp; try with_reducible rfl)
              try simp only [Act.put, List.getElem_toArray, List.getElem_cons_succ, List.getElem_cons_zero, List.setIfInBounds_toArray, List.set_cons_zero, List.set_cons_succ]
              refine wpAnyE_take (i := 8) (v := ?_) hS (by kernel_rfl) rfl (by kernel_rfl) (by kernel_rfl) (fun _ _ _ h => h) (Or.inl ⟨by rfl, ?_⟩) ?_
              rotate_left
              · (intro w hSw; go_simp; try with_reducible rfl)
              try simp only [Act.put, List.getElem_toArray, List.getElem_cons_succ, List.getElem_cons_zero, List.setIfInBounds_toArray, List.set_cons_zero, List.set_cons_succ]
              refine wpAnyE_take (i := 9) (v := ?_) hS (by kernel_rfl) rfl (by kernel_rfl) (by kernel_rfl) (fun _ _ _ h => h) (Or.inl ⟨by rfl, ?_⟩) ?_
              rotate_left
              · (intro w hSw; go_simp; try with_reducible rfl)
              try simp only [Act.put, List.getElem_toArray, List.getElem_cons_succ, List.getElem_cons_zero, List.setIfInBounds_toArray, List.set_cons_zero, List.set_cons_succ]
              refine wpAnyE_take (i := 10) (v := ?_) hS (by kernel_rfl) rfl (by kernel_rfl) (by kernel_rfl) (fun _ _ _ h => h) (Or.inl ⟨by rfl, ?_⟩) ?_
              rotate_left
              · (intro w hSw; go_simp; try with_reducible rfl)
              try simp only [Act.put, List.getElem_toArray, List.getElem_cons_succ, List.getElem_cons_zero, List.setIfInBounds_toArray, List.set_cons_zero, List.set_cons_succ]
              refine wpAnyE_one 7 (by kernel_rfl) rfl (fun K hK => ?_)
              go_simp
              go_at_call 75
              (with_reducible refine (HHA.out _).mono ?_)
              rintro e w5 ⟨rfl, hb5⟩
              replace q1 := q1.below hb5
              replace q2 := rowBelow q2 hb5
              obtain ⟨n1, n2, n3⟩ := ndCells q2
              obtain ⟨a1, a2⟩ := cellsOf q1.a
              obtain ⟨b1, b2⟩ := cellsOf q1.f
              have p1 := natsAt q1.out k 0 hlt (by rw [getD_snoc, if_pos HLL.out.symm])
              have p2 := q1.out.frozen k
              refine hK.out _ _ (fun _ => ⟨a1, a2, b1, b2, n2⟩) (fun hS => ?_)
              replace hS := hS (by decide)
              clear hK K
              try simp only [Act.put, List.getElem_toArray, List.getElem_cons_succ, List.getElem_cons_zero, List.setIfInBounds_toArray, List.set_cons_zero, List.set_cons_succ]
              refine wpAnyE_take (i := 11) (v := ?_) hS (by kernel_rfl) rfl (by kernel_rfl) (by kernel_rfl) (fun _ _ _ h => h) (Or.inl ⟨by rfl, ?_⟩) ?_
              rotate_left
              · (intro w hSw; go_simp; try with_reducible rfl)
              try simp only [Act.put, List.getElem_toArray, List.getElem_cons_succ, List.getElem_cons_zero, List.setIfInBounds_toArray, List.set_cons_zero, List.set_cons_succ]
              refine wpAnyE_one 12 (by kernel_rfl) rfl (fun K hK => ?_)
              go_simp
              refine hK.out _ _ (fun h => absurd rfl h) (fun _ => ?_)
              clear hK K
              refine wpAnyE_done (by kernel_rfl) ?_ _
              have HX2 := Lib.hid (HNX.out.trans (by rw [if_neg (by simp)]))
              go_wp2_with (go_at_call 20; (with_reducible refine (HOF.out _).mono ?_); rintro e w7 ⟨rfl, hb7⟩; replace q1 := q1.below hb7; have p1 := natsAt q1.out k 0 hlt (by rw [getD_snoc, if_pos HLL.out.symm]); have p2 := q1.out.frozen k)
              go_roundw
              case rel => exact ⟨k + 1, by omega, by go_num, by rw [HX2.out]; exact q1.set hgl hql 1 k HLL.out.symm⟩
              case measure => simp [intOf]; omega
        · as_aux_lemma =>
          have hst : (RW a f).step (own N.l) L ⟨2, -(m : Int), ins⟩ = if C = true ∧ B = true then 0 else 1 := by
            rw [hin]
            show fW a f (-(m : Int)) = _
            unfold fW
            rw [hv2, hB, hC, decide_eq_false (show ¬ (0 : Int) < -(m : Int) by omega)]
            cases B <;> cases C <;> rfl
          have hp1 : max (-(m : Int)) (m : Int) = (m : Int) := by omega
          have hp2 : ¬ (0 : Int) < -(m : Int) := by omega
          have hp3 : (m : Int) ≤ 128 := by omega
          have hp4 : (0 : Int) ≤ (m : Int) := by omega
          have hp6 : decide ((m : Int) < 0) = false := decide_eq_false (by omega)
          have hnx := HT.out
          rw [hst] at hnx
          have HNX := Lib.hid hnx
          have hq := hE.start.alloc (.cells #[.int .i64 2, .int .i64 (-(m : Int)), .slice A' ins.length c'] 41)
          have hnr := ndNew wr ⟨2, -(m : Int), ins⟩ A' c' 41 _ rfl
          have HQ := Lib.hid (And.intro hq hnr)
          clear hst hnx hq hnr hha hhf hB hC hv1 hv2 hlit hin HLO HT hE
          go_wp2
          obtain ⟨q1, q2⟩ := HQ.out
          replace q1 := q1.drew
          replace q2 := q2.drew
          obtain ⟨n1, n2, n3⟩ := ndCells q2
          obtain ⟨a1, a2⟩ := cellsOf q1.a
          obtain ⟨b1, b2⟩ := cellsOf q1.f
          have p1 := natsAt q1.out k 0 hlt (by rw [getD_snoc, if_pos HLL.out.symm])
          have p2 := q1.out.frozen k
          clear HQ
          cases C
          · as_aux_lemma =>
            refine wp_region_heldE (fun w' => w'.cell? ⟨w.heap.size, 0, none⟩ = some (Value.int .u64 (lo a : Int)) ∧ w'.cell? ⟨w.heap.size, 1, none⟩ = some (Value.int .u64 (hi a : Int)) ∧ w'.cell? ⟨w.heap.size + 1, 0, none⟩ = some (Value.int .u64 (lo f : Int)) ∧ w'.cell? ⟨w.heap.size + 1, 1, none⟩ = some (Value.int .u64 (hi f : Int)) ∧ w'.cell? ⟨wr.heap.size, 1, none⟩ = some (Value.int .i64 (-(m : Int)))) 12 (by kernel_rfl) ⟨a1, a2, b1, b2, n2⟩ (fun hS => ?_)
            refine wpAnyE_take (i := 0) (v := ?_) hS (by kernel_rfl) rfl (by kernel_rfl) (by kernel_rfl) (fun _ _ _ h => h) (Or.inl ⟨by rfl, ?_⟩) ?_
            rotate_left
            · as_aux_lemma =>
              (intro w hSw; go_simp; try with_reducible rfl)
            try simp only [Act.put, List.getElem_toArray, List.getElem_cons_succ, List.getElem_cons_zero, List.setIfInBounds_toArray, List.set_cons_zero, List.set_cons_succ]
            refine wpAnyE_take (i := 1) (v := ?_) hS (by kernel_rfl) rfl (by kernel_rfl) (by kernel_rfl) (fun _ _ _ h => h) (Or.inl ⟨by rfl, ?_⟩) ?_
            rotate_left
            · as_aux_lemma =>
              (intro w hSw; go_simp; try with_reducible rfl)
            try simp only [Act.put, List.getElem_toArray, List.getElem_cons_succ, List.getElem_cons_zero, List.setIfInBounds_toArray, List.set_cons_zero, List.set_cons_succ]
            refine wpAnyE_one 2 (by kernel_rfl) rfl (fun K hK => ?_)
            go_simp
            go_at_call 75
            (with_reducible refine (HHF.out _).mono ?_)
            rintro e w5 ⟨rfl, hb5⟩
            replace q1 := q1.below hb5
            replace q2 := rowBelow q2 hb5
            obtain ⟨n1, n2, n3⟩ := ndCells q2
            obtain ⟨a1, a2⟩ := cellsOf q1.a
            obtain ⟨b1, b2⟩ := cellsOf q1.f
            have p1 := natsAt q1.out k 0 hlt (by rw [getD_snoc, if_pos HLL.out.symm])
            have p2 := q1.out.frozen k
            refine hK.out _ _ (fun _ => ⟨a1, a2, b1, b2, n2⟩) (fun hS => ?_)
            replace hS := hS (by decide)
            clear hK K
            try simp only [Act.put, List.getElem_toArray, List.getElem_cons_succ, List.getElem_cons_zero, List.setIfInBounds_toArray, List.set_cons_zero, List.set_cons_succ]
            refine wpAnyE_take (i := 3) (v := ?_) hS (by kernel_rfl) rfl (by kernel_rfl) (by kernel_rfl) (fun _ _ _ h => h) (Or.inl ⟨by rfl, ?_⟩) ?_
            rotate_left
            · as_aux_lemma =>
              (intro w hSw; go_simp; try with_reducible rfl)
            try simp only [Act.put, List.getElem_toArray, List.getElem_cons_succ, List.getElem_cons_zero, List.setIfInBounds_toArray, List.set_cons_zero, List.set_cons_succ]
            refine wpAnyE_take (i := 4) (v := ?_) hS (by kernel_rfl) rfl (by kernel_rfl) (by kernel_rfl) (fun _ _ _ h => h) (Or.inl ⟨by rfl, ?_⟩) ?_
            rotate_left
            · as_aux_lemma =>
              (intro w hSw; go_simp; try with_reducible rfl)
            try simp only [Act.put, List.getElem_toArray, List.getElem_cons_succ, List.getElem_cons_zero, List.setIfInBounds_toArray, List.set_cons_zero, List.set_cons_succ]
            refine wpAnyE_take (i := 5) (v := undef) hS (by kernel_rfl) rfl (by kernel_rfl) (by kernel_rfl) (fun _ _ _ h => h) (Or.inr ⟨by rfl, rfl⟩) ?_
            simp only [Act.put, List.getElem_toArray, List.getElem_cons_succ, List.getElem_cons_zero, List.setIfInBounds_toArray, List.set_cons_zero, List.set_cons_succ]
            refine wpAnyE_take (i := 6) (v := undef) hS (by kernel_rfl) rfl (by kernel_rfl) (by kernel_rfl) (fun _ _ _ h => h) (Or.inr ⟨by rfl, rfl⟩) ?_
            simp only [Act.put, List.getElem_toArray, List.getElem_cons_succ, List.getElem_cons_zero, List.setIfInBounds_toArray, List.set_cons_zero, List.set_cons_succ]
            refine wpAnyE_take (i := 7) (v := undef) hS (by kernel_rfl) rfl (by kernel_rfl) (by kernel_rfl) (fun _ _ _ h => h) (Or.inr ⟨by rfl, rfl⟩) ?_
            simp only [Act.put, List.getElem_toArray, List.getElem_cons_succ, List.getElem_cons_zero, List.setIfInBounds_toArray, List.set_cons_zero, List.set_cons_succ]
            refine wpAnyE_take (i := 8) (v := undef) hS (by kernel_rfl) rfl (by kernel_rfl) (by kernel_rfl) (fun _ _ _ h => h) (Or.inr ⟨by rfl, rfl⟩) ?_
            simp only [Act.put, List.getElem_toArray, List.getElem_cons_succ, List.getElem_cons_zero, List.setIfInBounds_toArray, List.set_cons_zero, List.set_cons_succ]
            refine wpAnyE_take (i := 9) (v := undef) hS (by kernel_rfl) rfl (by kernel_rfl) (by kernel_rfl) (fun _ _ _ h => h) (Or.inr ⟨by rfl, rfl⟩) ?_
            simp only [Act.put, List.getElem_toArray, List.getElem_cons_succ, List.getElem_cons_zero, List.setIfInBounds_toArray, List.set_cons_zero, List.set_cons_succ]
            refine wpAnyE_take (i := 10) (v := undef) hS (by kernel_rfl) rfl (by kernel_rfl) (by kernel_rfl) (fun _ _ _ h => h) (Or.inr ⟨by rfl, rfl⟩) ?_
            simp only [Act.put, List.getElem_toArray, List.getElem_cons_succ, List.getElem_cons_zero, List.setIfInBounds_toArray, List.set_cons_zero, List.set_cons_succ]
            refine wpAnyE_take (i := 11) (v := undef) hS (by kernel_rfl) rfl (by kernel_rfl) (by kernel_rfl) (fun _ _ _ h => h) (Or.inr ⟨by rfl, rfl⟩) ?_
            simp only [Act.put, List.getElem_toArray, List.getElem_cons_succ, List.getElem_cons_zero, List.setIfInBounds_toArray, List.set_cons_zero, List.set_cons_succ]
            refine wpAnyE_one 12 (by kernel_rfl) rfl (fun K hK => ?_)
            go_simp
            refine hK.out _ _ (fun h => absurd rfl h) (fun _ => ?_)
            clear hK K
            refine wpAnyE_done (by kernel_rfl) ?_ _
            have HX2 := Lib.hid (HNX.out.trans (by rw [if_neg (by simp)]))
            go_wp2_with (go_at_call 20; (with_reducible refine (HOF.out _).mono ?_); rintro e w7 ⟨rfl, hb7⟩; replace q1 := q1.below hb7; have p1 := natsAt q1.out k 0 hlt (by rw [getD_snoc, if_pos HLL.out.symm]); have p2 := q1.out.frozen k)
            go_roundw
            case rel => exact ⟨k + 1, by omega, by go_num, by rw [HX2.out]; exact q1.set hgl hql 1 k HLL.out.symm⟩
            case measure => simp [intOf]; omega
          · as_aux_lemma =>
            cases B
            · as_aux_lemma =>
              refine wp_region_heldE (fun w' => w'.cell? ⟨w.heap.size, 0, none⟩ = some (Value.int .u64 (lo a : Int)) ∧ w'.cell? ⟨w.heap.size, 1, none⟩ = some (Value.int .u64 (hi a : Int)) ∧ w'.cell? ⟨w.heap.size + 1, 0, none⟩ = some (Value.int .u64 (lo f : Int)) ∧ w'.cell? ⟨w.heap.size + 1, 1, none⟩ = some (Value.int .u64 (hi f : Int)) ∧ w'.cell? ⟨wr.heap.size, 1, none⟩ = some (Value.int .i64 (-(m : Int)))) 12 (by kernel_rfl) ⟨a1, a2, b1, b2, n2⟩ (fun hS => ?_)
              refine wpAnyE_take (i := 0) (v := ?_) hS (by kernel_rfl) rfl (by kernel_rfl) (by kernel_rfl) (fun _ _ _ h => h) (Or.inl ⟨by rfl, ?_⟩) ?_
              rotate_left
              · (intro w hSw; go_simp; try with_reducible rfl)
              try simp only [Act.put, List.getElem_toArray, List.getElem_cons_succ, List.getElem_cons_zero, List.setIfInBounds_toArray, List.set_cons_zero, List.set_cons_succ]
              refine wpAnyE_take (i := 1) (v := ?_) hS (by kernel_rfl) rfl (by kernel_rfl) (by kernel_rfl) (fun _ _ _ h => h) (Or.inl ⟨by rfl, ?_⟩) ?_
              rotate_left
              · (intro w hSw; go_simp; try with_reducible rfl)
              try simp only [Act.put, List.getElem_toArray, List.getElem_cons_succ, List.getElem_cons_zero, List.setIfInBounds_toArray, List.set_cons_zero, List.set_cons_succ]
              refine wpAnyE_one 2 (by kernel_rfl) rfl (fun K hK => ?_)
              go_simp
              go_at_call 75
              (with_reducible refine (HHF.out _).mono ?_)
              rintro e w5 ⟨rfl, hb5⟩
              replace q1 := q1.below hb5
              replace q2 := rowBelow q2 hb5
              obtain ⟨n1, n2, n3⟩ := ndCells q2
              obtain ⟨a1, a2⟩ := cellsOf q1.a
              obtain ⟨b1, b2⟩ := cellsOf q1.f
              have p1 := natsAt q1.out k 0 hlt (by rw [getD_snoc, if_pos HLL.out.symm])
              have p2 := q1.out.frozen k
              refine hK.out _ _ (fun _ => ⟨a1, a2, b1, b2, n2⟩) (fun hS => ?_)
              replace hS := hS (by decide)
              clear hK K
              try simp only [Act.put, List.getElem_toArray, List.getElem_cons_succ, List.getElem_cons_zero, List.setIfInBounds_toArray, List.set_cons_zero, List.set_cons_succ]
              refine wpAnyE_take (i := 3) (v := ?_) hS (by kernel_rfl) rfl (by kernel_rfl) (by kernel_rfl) (fun _ _ _ h => h) (Or.inl ⟨by rfl, ?_⟩) ?_
              rotate_left
              · (intro w hSw; go_simp; try with_reducible rfl)
              try simp only [Act.put, List.getElem_toArray, List.getElem_cons_succ, List.getElem_cons_zero, List.setIfInBounds_toArray, List.set_cons_zero, List.set_cons_succ]
              refine wpAnyE_take (i := 4) (v := ?_) hS (by kernel_rfl) rfl (by kernel_rfl) (by kernel_rfl) (fun _ _ _ h => h) (Or.inl ⟨by rfl, ?_⟩) ?_
              rotate_left
              · (intro w hSw; go_simp; try with_reducible rfl)
              try simp only [Act.put, List.getElem_toArray, List.getElem_cons_succ, List.getElem_cons_zero, List.setIfInBounds_toArray, List.set_cons_zero, List.set_cons_succ]
              refine wpAnyE_take (i := 5) (v := ?_) hS (by kernel_rfl) rfl (by kernel_rfl) (by kernel_rfl) (fun _ _ _ h => h) (Or.inl ⟨by rfl, ?_⟩) ?_
              rotate_left
              · (intro w hSw; go_simp; try with_reducible rfl)
              try simp only [Act.put, List.getElem_toArray, List.getElem_cons_succ, List.getElem_cons_zero, List.setIfInBounds_toArray, List.set_cons_zero, List.set_cons_succ]
              refine wpAnyE_take (i := 6) (v := ?_) hS (by kernel_rfl) rfl (by kernel_rfl) (by kernel_rfl) (fun _ _ _ h => h) (Or.inl ⟨by rfl, ?_⟩) ?_
              rotate_left
              · (intro w hSw; go_simp; try with_reducible rfl)
              try simp only [Act.put, List.getElem_toArray, List.getElem_cons_succ, List.getElem_cons_zero, List.setIfInBounds_toArray, List.set_cons_zero, List.set_cons_succ]
              refine wpAnyE_take (i := 8) (v := ?_) hS (by kernel_rfl) rfl (by kernel_rfl) (by kernel_rfl) (fun _ _ _ h => h) (Or.inl ⟨by rfl, ?_⟩) ?_
              rotate_left
              · (intro w hSw; go_simp; try with_reducible rfl)
              try simp only [Act.put, List.getElem_toArray, List.getElem_cons_succ, List.getElem_cons_zero, List.setIfInBounds_toArray, List.set_cons_zero, List.set_cons_succ]
              refine wpAnyE_take (i := 9) (v := ?_) hS (by kernel_rfl) rfl (by kernel_rfl) (by kernel_rfl) (fun _ _ _ h => h) (Or.inl ⟨by rfl, ?_⟩) ?_
              rotate_left
              · (intro w hSw; go_simp; try with_reducible rfl)
              try simp only [Act.put, List.getElem_toArray, List.getElem_cons_succ, List.getElem_cons_zero, List.setIfInBounds_toArray, List.set_cons_zero, List.set_cons_succ]
              refine wpAnyE_take (i := 10) (v := ?_) hS (by kernel_rfl) rfl (by kernel_rfl) (by kernel_rfl) (fun _ _ _ h => h) (Or.inl ⟨by rfl, ?_⟩) ?_
              rotate_left
              · (intro w hSw; go_simp; try with_reducible rfl)
              try simp only [Act.put, List.getElem_toArray, List.getElem_cons_succ, List.getElem_cons_zero, List.setIfInBounds_toArray, List.set_cons_zero, List.set_cons_succ]
              refine wpAnyE_one 7 (by kernel_rfl) rfl (fun K hK => ?_)
              go_simp
              go_at_call 75
              (with_reducible refine (HHA.out _).mono ?_)
              rintro e w5 ⟨rfl, hb5⟩
              replace q1 := q1.below hb5
              replace q2 := rowBelow q2 hb5
              obtain ⟨n1, n2, n3⟩ := ndCells q2
              obtain ⟨a1, a2⟩ := cellsOf q1.a
              obtain ⟨b1, b2⟩ := cellsOf q1.f
              have p1 := natsAt q1.out k 0 hlt (by rw [getD_snoc, if_pos HLL.out.symm])
              have p2 := q1.out.frozen k
              refine hK.out _ _ (fun _ => ⟨a1, a2, b1, b2, n2⟩) (fun hS => ?_)
              replace hS := hS (by decide)
              clear hK K
              try simp only [Act.put, List.getElem_toArray, List.getElem_cons_succ, List.getElem_cons_zero, List.setIfInBounds_toArray, List.set_cons_zero, List.set_cons_succ]
              refine wpAnyE_take (i := 11) (v := ?_) hS (by kernel_rfl) rfl (by kernel_rfl) (by kernel_rfl) (fun _ _ _ h => h) (Or.inl ⟨by rfl, ?_⟩) ?_
              rotate_left
              · (intro w hSw; go_simp; try with_reducible rfl)
              try simp only [Act.put, List.getElem_toArray, List.getElem_cons_succ, List.getElem_cons_zero, List.setIfInBounds_toArray, List.set_cons_zero, List.set_cons_succ]
              refine wpAnyE_one 12 (by kernel_rfl) rfl (fun K hK => ?_)
              go_simp
              refine hK.out _ _ (fun h => absurd rfl h) (fun _ => ?_)
              clear hK K
              refine wpAnyE_done (by kernel_rfl) ?_ _
              have HX2 := Lib.hid (HNX.out.trans (by rw [if_neg (by simp)]))
              go_wp2_with (go_at_call 20; (with_reducible refine (HOF.out _).mono ?_); rintro e w7 ⟨rfl, hb7⟩; replace q1 := q1.below hb7; have p1 := natsAt q1.out k 0 hlt (by rw [getD_snoc, if_pos HLL.out.symm]); have p2 := q1.out.frozen k)
              go_roundw
              case rel => exact ⟨k + 1, by omega, by go_num, by rw [HX2.out]; exact q1.set hgl hql 1 k HLL.out.symm⟩
              case measure => simp [intOf]; omega
            · as_aux_lemma =>
              refine wp_region_heldE (fun w' => w'.cell? ⟨w.heap.size, 0, none⟩ = some (Value.int .u64 (lo a : Int)) ∧ w'.cell? ⟨w.heap.size, 1, none⟩ = some (Value.int .u64 (hi a : Int)) ∧ w'.cell? ⟨w.heap.size + 1, 0, none⟩ = some (Value.int .u64 (lo f : Int)) ∧ w'.cell? ⟨w.heap.size + 1, 1, none⟩ = some (Value.int .u64 (hi f : Int)) ∧ w'.cell? ⟨wr.heap.size, 1, none⟩ = some (Value.int .i64 (-(m : Int)))) 12 (by kernel_rfl) ⟨a1, a2, b1, b2, n2⟩ (fun hS => ?_)
              refine wpAnyE_take (i := 0) (v := ?_) hS (by kernel_rfl) rfl (by kernel_rfl) (by kernel_rfl) (fun _ _ _ h => h) (Or.inl ⟨by rfl, ?_⟩) ?_
              rotate_left
              · (intro w hSw; go_simp; try with_reducible rfl)
              try simp only [Act.put, List.getElem_toArray, List.getElem_cons_succ, List.getElem_cons_zero, List.setIfInBounds_toArray, List.set_cons_zero, List.set_cons_succ]
              refine wpAnyE_take (i := 1) (v := ?_) hS (by kernel_rfl) rfl (by kernel_rfl) (by kernel_rfl) (fun _ _ _ h => h) (Or.inl ⟨by rfl, ?_⟩) ?_
              rotate_left
              · (intro w hSw; go_simp; try with_reducible rfl)
              try simp only [Act.put, List.getElem_toArray, List.getElem_cons_succ, List.getElem_cons_zero, List.setIfInBounds_toArray, List.set_cons_zero, List.set_cons_succ]
              refine wpAnyE_one 2 (by kernel_rfl) rfl (fun K hK => ?_)
              go_simp
              go_at_call 75
              (with_reducible refine (HHF.out _).mono ?_)
              rintro e w5 ⟨rfl, hb5⟩
              replace q1 := q1.below hb5
              replace q2 := rowBelow q2 hb5
              obtain ⟨n1, n2, n3⟩ := ndCells q2
              obtain ⟨a1, a2⟩ := cellsOf q1.a
              obtain ⟨b1, b2⟩ := cellsOf q1.f
              have p1 := natsAt q1.out k 0 hlt (by rw [getD_snoc, if_pos HLL.out.symm])
              have p2 := q1.out.frozen k
              refine hK.out _ _ (fun _ => ⟨a1, a2, b1, b2, n2⟩) (fun hS => ?_)
              replace hS := hS (by decide)
              clear hK K
              try simp only [Act.put, List.getElem_toArray, List.getElem_cons_succ, List.getElem_cons_zero, List.setIfInBounds_toArray, List.set_cons_zero, List.set_cons_succ]
              refine wpAnyE_take (i := 3) (v := ?_) hS (by kernel_rfl) rfl (by kernel_rfl) (by kernel_rfl) (fun _ _ _ h => h) (Or.inl ⟨by rfl, ?_⟩) ?_
              rotate_left
              · (intro w hSw; go_simp; try with_reducible rfl)
              try simp only [Act.put, List.getElem_toArray, List.getElem_cons_succ, List.getElem_cons_zero, List.setIfInBounds_toArray, List.set_cons_zero, List.set_cons_succ]
              refine wpAnyE_take (i := 4) (v := ?_) hS (by kernel_rfl) rfl (by kernel_rfl) (by kernel_rfl) (fun _ _ _ h => h) (Or.inl ⟨by rfl, ?_⟩) ?_
              rotate_left
              · (intro w hSw; go_simp; try with_reducible rfl)
              try simp only [Act.put, List.getElem_toArray, List.getElem_cons_succ, List.getElem_cons_zero, List.setIfInBounds_toArray, List.set_cons_zero, List.set_cons_succ]
              refine wpAnyE_take (i := 5) (v := ?_) hS (by kernel_rfl) rfl (by kernel_rfl) (by kernel_rfl) (fun _ _ _ h => h) (Or.inl ⟨by rfl, ?_⟩) ?_
              rotate_left
              · (intro w hSw; go_simp; try with_reducible rfl)
              try simp only [Act.put, List.getElem_toArray, List.getElem_cons_succ, List.getElem_cons_zero, List.setIfInBounds_toArray, List.set_cons_zero, List.set_cons_succ]
              refine wpAnyE_take (i := 6) (v := ?_) hS (by kernel_rfl) rfl (by kernel_rfl) (by kernel_rfl) (fun _ _ _ h => h) (Or.inl ⟨by rfl, ?_⟩) ?_
              rotate_left
              · (intro w hSw; go_simp; try with_reducible rfl)
              try simp only [Act.put, List.getElem_toArray, List.getElem_cons_succ, List.getElem_cons_zero, List.setIfInBounds_toArray, List.set_cons_zero, List.set_cons_succ]
              refine wpAnyE_take (i := 8) (v := ?_) hS (by kernel_rfl) rfl (by kernel_rfl) (by kernel_rfl) (fun _ _ _ h => h) (Or.inl ⟨by rfl, ?_⟩) ?_
              rotate_left
              · (intro w hSw; go_simp; try with_reducible rfl)
              try simp only [Act.put, List.getElem_toArray, List.getElem_cons_succ, List.getElem_cons_zero, List.setIfInBounds_toArray, List.set_cons_zero, List.set_cons_succ]
              refine wpAnyE_take (i := 9) (v := ?_) hS (by kernel_rfl) rfl (by kernel_rfl) (by kernel_rfl) (fun _ _ _ h => h) (Or.inl ⟨by rfl, ?_⟩) ?_
              rotate_left
              · (intro w hSw; go_simp; try with_reducible rfl)
              try simp only [Act.put, List.getElem_toArray, List.getElem_cons_succ, List.getElem_cons_zero, List.setIfInBounds_toArray, List.set_cons_zero, List.set_cons_succ]
              refine wpAnyE_take (i := 10) (v := ?_) hS (by kernel_rfl) rfl (by kernel_rfl) (by kernel_rfl) (fun _ _ _ h => h) (Or.inl ⟨by rfl, ?_⟩) ?_
              rotate_left
              · (intro w hSw; go_simp; try with_reducible rfl)
              try simp only [Act.put, List.getElem_toArray, List.getElem_cons_succ, List.getElem_cons_zero, List.setIfInBounds_toArray, List.set_cons_zero, List.set_cons_succ]
              refine wpAnyE_one 7 (by kernel_rfl) rfl (fun K hK => ?_)
              go_simp
              go_at_call 75
              (with_reducible refine (HHA.out _).mono ?_)
              rintro e w5 ⟨rfl, hb5⟩
              replace q1 := q1.below hb5
              replace q2 := rowBelow q2 hb5
              obtain ⟨n1, n2, n3⟩ := ndCells q2
              obtain ⟨a1, a2⟩ := cellsOf q1.a
              obtain ⟨b1, b2⟩ := cellsOf q1.f
              have p1 := natsAt q1.out k 0 hlt (by rw [getD_snoc, if_pos HLL.out.symm])
              have p2 := q1.out.frozen k
              refine hK.out _ _ (fun _ => ⟨a1, a2, b1, b2, n2⟩) (fun hS => ?_)
              replace hS := hS (by decide)
              clear hK K
              try simp only [Act.put, List.getElem_toArray, List.getElem_cons_succ, List.getElem_cons_zero, List.setIfInBounds_toArray, List.set_cons_zero, List.set_cons_succ]
              refine wpAnyE_take (i := 11) (v := ?_) hS (by kernel_rfl) rfl (by kernel_rfl) (by kernel_rfl) (fun _ _ _ h => h) (Or.inl ⟨by rfl, ?_⟩) ?_
              rotate_left
              · (intro w hSw; go_simp; try with_reducible rfl)
              try simp only [Act.put, List.getElem_toArray, List.getElem_cons_succ, List.getElem_cons_zero, List.setIfInBounds_toArray, List.set_cons_zero, List.set_cons_succ]
              refine wpAnyE_one 12 (by kernel_rfl) rfl (fun K hK => ?_)
              go_simp
              refine hK.out _ _ (fun h => absurd rfl h) (fun _ => ?_)
              clear hK K
              refine wpAnyE_done (by kernel_rfl) ?_ _
              have HX2 := Lib.hid (HNX.out.trans (by rw [if_pos (by simp)]))
              go_wp2
              go_roundw
              case rel => exact ⟨k + 1, by omega, by go_num, by rw [HX2.out]; exact q1⟩
              case measure => simp [intOf]; omega
      · as_aux_lemma =>
        clear HLO HNIL
        have HX0 := Lib.hid (hE.start.alloc (.cells #[.int .i64 3, .int .i64 lt, .slice A' ins.length c'] 41))
        have hnr := ndNew wr ⟨3, lt, ins⟩ A' c' 41 _ rfl
        have HNR := Lib.hid hnr
        clear hE hnr
        go_wp2_with (go_at_call 20; (with_reducible refine (HOF.out _).mono ?_); rintro e w5 ⟨rfl, hb5⟩; have q1 := HX0.out.below hb5; have q2 := rowBelow HNR.out hb5; obtain ⟨n1, n2, n3⟩ := ndCells q2; have p1 := natsAt q1.out k 0 hlt (by rw [getD_snoc, if_pos HLL.out.symm]); have p2 := q1.out.frozen k; obtain ⟨n4, n5, n6⟩ := ndCells (q2.setOther (a := ⟨w.heap.size + 1 + 1 + 1, k, none⟩) (by simp <;> omega) (.string (natB 1))))
        have HX := Lib.hid (q1.set hgl hql 1 k HLL.out.symm)
        clear q1 q2 n1 n2 n3 n4 n5 n6 p1 p2 HX0 HNR
        go_loopw [77] (fun t wq => ∃ m T : Nat, m ≤ ins.length ∧ t = .int .i64 m ∧ Hid ((ins.take m).foldl ((RW a f).in1 (own N.l) L ⟨3, lt, ins⟩) ((RW a f).start ⟨3, lt, ins⟩) = T) ∧ CoR w N (some ⟨b, o, none⟩) c g q a f (L ++ [T]) wq) (fun t _ => ins.length - (intOf t).toNat)
        case atStart => exact ⟨0, (RW a f).start ⟨3, lt, ins⟩, by omega, rfl, Lib.hid rfl, HX.out⟩
        case round =>
          clear HX s1 s2 s3 o1 o2 hk1 hk2 hk3
          obtain ⟨m, T, hm, rfl, HP, hE⟩ := hrel
          by_cases hmlt : m < ins.length
          · as_aux_lemma =>
            obtain ⟨b', o', rfl, hbB', hcs⟩ := HRW.out (by omega)
            have hc := below_cell hE.bl hbB' (hcs m hmlt)
            clear hcs
            obtain ⟨j, hj, hjk⟩ := HMEM.out ins[m] (List.getElem_mem hmlt)
            have hii : intF ins m = .int .i64 (j : Int) := by unfold intF; rw [List.getD_eq_getElem?_getD, List.getElem?_eq_getElem hmlt]; simp [hj]
            rw [hii] at hc
            obtain ⟨R, hR⟩ : ∃ R, L.getD j 0 = R := ⟨_, rfl⟩
            obtain ⟨Ok, hOk⟩ : ∃ s, (own N.l).getD k 0 = s := ⟨_, rfl⟩
            obtain ⟨Oj, hOj⟩ : ∃ s, (own N.l).getD j 0 = s := ⟨_, rfl⟩
            have hTb := HPT2.out m
            rw [HP.out] at hTb
            have hRb := HPRE2.out j
            rw [hR] at hRb
            have hft : (ins.take (m + 1)).foldl ((RW a f).in1 (own N.l) L ⟨3, lt, ins⟩) ((RW a f).start ⟨3, lt, ins⟩) = T * R := by
              rw [List.take_succ_eq_append_getElem hmlt, List.foldl_append, HP.out]
              show (RW a f).in1 (own N.l) L ⟨3, lt, ins⟩ T ins[m] = _
              unfold Rg.in1
              rw [if_pos (.inr rfl), hj, Int.toNat_natCast]
              show T * L.getD j 0 = _
              rw [hR]
            have HFT := Lib.hid hft
            have HR := Lib.hid hR
            have HOK := Lib.hid hOk
            have HOJ := Lib.hid hOj
            have q1 := hE
            obtain ⟨e1, e2, e3, e4, e5, e6, e7, f1⟩ := q1.two k hlt HLL.out j hjk R HR.out HOK.out HOJ.out
            have j0 : (0 : Int) ≤ (j : Int) := by omega
            have j1 : (j : Int) < (N.l.length : Int) := by omega
            have hQ2 := hE.out.lt
            have hz1 := Nat.le_trans (n8_short T hTb) (show 1000 ≤ 1000000 by decide)
            have hz2 := Nat.le_trans (n8_short R hRb) (show 1000 ≤ 1000000 by decide)
            clear hft hii hR hOk hOj hj
            have hmu := fun W => mul_any W T R hz1 hz2
            obtain ⟨V, hV⟩ : ∃ V, T * R = V := ⟨_, rfl⟩
            simp only [hV] at hmu
            rw [hV] at HFT
            have HMU := Lib.hid hmu
            clear hmu hV hE
            go_wp2_with fail
            replace q1 := q1.drew
            obtain ⟨e1, e2, e3, e4, e5, e6, e7, f1⟩ := q1.two k hlt HLL.out j hjk R HR.out HOK.out HOJ.out
            refine wp_region_heldE (fun w' => w'.cell? ⟨w.heap.size + 1 + 1 + 1, k, none⟩ = some (Value.string (natB T)) ∧ w'.cell? ⟨w.heap.size + 1 + 1 + 1, j, none⟩ = some (Value.string (natB R))) 12 (by kernel_rfl) ⟨e1, e2⟩ (fun hS => ?_)
            refine wpAnyE_take (i := 0) (v := ?_) hS (by kernel_rfl) rfl (by kernel_rfl) (by kernel_rfl) (fun _ _ _ h => h) (Or.inl ⟨by rfl, ?_⟩) ?_
            rotate_left
            · as_aux_lemma =>
              (intro w hSw; go_simp; try with_reducible rfl)
            try simp only [Act.put, List.getElem_toArray, List.getElem_cons_succ, List.getElem_cons_zero, List.setIfInBounds_toArray, List.set_cons_zero, List.set_cons_succ]
            refine wpAnyE_take (i := 1) (v := ?_) hS (by kernel_rfl) rfl (by kernel_rfl) (by kernel_rfl) (fun _ _ _ h => h) (Or.inl ⟨by rfl, ?_⟩) ?_
            rotate_left
            · as_aux_lemma =>
              (intro w hSw; go_simp; try with_reducible rfl)
            try simp only [Act.put, List.getElem_toArray, List.getElem_cons_succ, List.getElem_cons_zero, List.setIfInBounds_toArray, List.set_cons_zero, List.set_cons_succ]
            refine wpAnyE_take (i := 2) (v := ?_) hS (by kernel_rfl) rfl (by kernel_rfl) (by kernel_rfl) (fun _ _ _ h => h) (Or.inl ⟨by rfl, ?_⟩) ?_
            rotate_left
            · as_aux_lemma =>
              (intro w hSw; go_simp; try with_reducible rfl)
            try simp only [Act.put, List.getElem_toArray, List.getElem_cons_succ, List.getElem_cons_zero, List.setIfInBounds_toArray, List.set_cons_zero, List.set_cons_succ]
            refine wpAnyE_take (i := 3) (v := ?_) hS (by kernel_rfl) rfl (by kernel_rfl) (by kernel_rfl) (fun _ _ _ h => h) (Or.inl ⟨by rfl, ?_⟩) ?_
            rotate_left
            · as_aux_lemma =>
              (intro w hSw; go_simp; try with_reducible rfl)
            try simp only [Act.put, List.getElem_toArray, List.getElem_cons_succ, List.getElem_cons_zero, List.setIfInBounds_toArray, List.set_cons_zero, List.set_cons_succ]
            refine wpAnyE_take (i := 4) (v := ?_) hS (by kernel_rfl) rfl (by kernel_rfl) (by kernel_rfl) (fun _ _ _ h => h) (Or.inl ⟨by rfl, ?_⟩) ?_
            rotate_left
            · as_aux_lemma =>
              (intro w hSw; go_simp; try with_reducible rfl)
            try simp only [Act.put, List.getElem_toArray, List.getElem_cons_succ, List.getElem_cons_zero, List.setIfInBounds_toArray, List.set_cons_zero, List.set_cons_succ]
            refine wpAnyE_take (i := 5) (v := ?_) hS (by kernel_rfl) rfl (by kernel_rfl) (by kernel_rfl) (fun _ _ _ h => h) (Or.inl ⟨by rfl, ?_⟩) ?_
            rotate_left
            · as_aux_lemma =>
              (intro w hSw; go_simp; try with_reducible rfl)
            try simp only [Act.put, List.getElem_toArray, List.getElem_cons_succ, List.getElem_cons_zero, List.setIfInBounds_toArray, List.set_cons_zero, List.set_cons_succ]
            refine wpAnyE_take (i := 6) (v := ?_) hS (by kernel_rfl) rfl (by kernel_rfl) (by kernel_rfl) (fun _ _ _ h => h) (Or.inl ⟨by rfl, ?_⟩) ?_
            rotate_left
            · as_aux_lemma =>
              (intro w hSw; go_simp; try with_reducible rfl)
            try simp only [Act.put, List.getElem_toArray, List.getElem_cons_succ, List.getElem_cons_zero, List.setIfInBounds_toArray, List.set_cons_zero, List.set_cons_succ]
            refine wpAnyE_take (i := 7) (v := ?_) hS (by kernel_rfl) rfl (by kernel_rfl) (by kernel_rfl) (fun _ _ _ h => h) (Or.inl ⟨by rfl, ?_⟩) ?_
            rotate_left
            · as_aux_lemma =>
              (intro w hSw; go_simp; try with_reducible rfl)
            try simp only [Act.put, List.getElem_toArray, List.getElem_cons_succ, List.getElem_cons_zero, List.setIfInBounds_toArray, List.set_cons_zero, List.set_cons_succ]
            refine wpAnyE_take (i := 8) (v := ?_) hS (by kernel_rfl) rfl (by kernel_rfl) (by kernel_rfl) (fun _ _ _ h => h) (Or.inl ⟨by rfl, ?_⟩) ?_
            rotate_left
            · as_aux_lemma =>
              (intro w hSw; go_simp; try with_reducible rfl)
            try simp only [Act.put, List.getElem_toArray, List.getElem_cons_succ, List.getElem_cons_zero, List.setIfInBounds_toArray, List.set_cons_zero, List.set_cons_succ]
            refine wpAnyE_take (i := 9) (v := ?_) hS (by kernel_rfl) rfl (by kernel_rfl) (by kernel_rfl) (fun _ _ _ h => h) (Or.inl ⟨by rfl, ?_⟩) ?_
            rotate_left
            · as_aux_lemma =>
              (intro w hSw; go_simp; try with_reducible rfl)
            try simp only [Act.put, List.getElem_toArray, List.getElem_cons_succ, List.getElem_cons_zero, List.setIfInBounds_toArray, List.set_cons_zero, List.set_cons_succ]
            refine wpAnyE_one 10 (by kernel_rfl) rfl (fun K hK => ?_)
            go_simp
            go_at_call 81
            (with_reducible refine (HMU.out _).mono ?_)
            rintro e w5 ⟨rfl, hb5⟩
            replace q1 := q1.below hb5
            obtain ⟨e1, e2, e3, e4, e5, e6, e7, f1⟩ := q1.two k hlt HLL.out j hjk R HR.out HOK.out HOJ.out
            refine hK.out _ _ (fun _ => ⟨e1, e2⟩) (fun hS => ?_)
            replace hS := hS (by decide)
            clear hK K
            try simp only [Act.put, List.getElem_toArray, List.getElem_cons_succ, List.getElem_cons_zero, List.setIfInBounds_toArray, List.set_cons_zero, List.set_cons_succ]
            refine wpAnyE_take (i := 11) (v := ?_) hS (by kernel_rfl) rfl (by kernel_rfl) (by kernel_rfl) (fun _ _ _ h => h) (Or.inl ⟨by rfl, ?_⟩) ?_
            rotate_left
            · as_aux_lemma =>
              (intro w hSw; go_simp; try with_reducible rfl)
            try simp only [Act.put, List.getElem_toArray, List.getElem_cons_succ, List.getElem_cons_zero, List.setIfInBounds_toArray, List.set_cons_zero, List.set_cons_succ]
            refine wpAnyE_one 12 (by kernel_rfl) rfl (fun K hK => ?_)
            go_simp
            refine hK.out _ _ (fun h => absurd rfl h) (fun _ => ?_)
            clear hK K
            refine wpAnyE_done (by kernel_rfl) ?_ _
            go_wp2
            go_roundw
            case rel => exact ⟨m + 1, V, by omega, by go_num, HFT, q1.set hgl hql V k HLL.out.symm⟩
            case measure => simp [intOf]; omega
          · as_aux_lemma =>
            obtain rfl : m = ins.length := by omega
            have hfo := HP.out
            rw [List.take_length] at hfo
            have hst : (RW a f).step (own N.l) L ⟨3, lt, ins⟩ = T := hfo
            have hnx := HT.out
            rw [hst] at hnx
            have HNX := Lib.hid hnx
            clear hfo hst hnx
            go_wp2
            go_roundw
            case rel => exact ⟨k + 1, by omega, by go_num, by rw [HNX.out]; exact hE⟩
            case measure => simp [intOf]; omega
      · as_aux_lemma =>
        clear HLO HNIL
        have HX := Lib.hid (hE.start.alloc (.cells #[.int .i64 4, .int .i64 lt, .slice A' ins.length c'] 41))
        clear hE
        go_wp2
        go_loopw [99] (fun t wq => ∃ m T : Nat, m ≤ ins.length ∧ t = .int .i64 m ∧ Hid ((ins.take m).foldl ((RW a f).in1 (own N.l) L ⟨4, lt, ins⟩) ((RW a f).start ⟨4, lt, ins⟩) = T) ∧ CoR w N (some ⟨b, o, none⟩) c g q a f (L ++ [T]) wq) (fun t _ => ins.length - (intOf t).toNat)
        case atStart => exact ⟨0, (RW a f).start ⟨4, lt, ins⟩, by omega, rfl, Lib.hid rfl, HX.out⟩
        case round =>
          clear HX s1 s2 s3 o1 o2 hk1 hk2 hk3
          obtain ⟨m, T, hm, rfl, HP, hE⟩ := hrel
          by_cases hmlt : m < ins.length
          · as_aux_lemma =>
            obtain ⟨b', o', rfl, hbB', hcs⟩ := HRW.out (by omega)
            have hc := below_cell hE.bl hbB' (hcs m hmlt)
            clear hcs
            obtain ⟨j, hj, hjk⟩ := HMEM.out ins[m] (List.getElem_mem hmlt)
            have hii : intF ins m = .int .i64 (j : Int) := by unfold intF; rw [List.getD_eq_getElem?_getD, List.getElem?_eq_getElem hmlt]; simp [hj]
            rw [hii] at hc
            obtain ⟨R, hR⟩ : ∃ R, L.getD j 0 = R := ⟨_, rfl⟩
            obtain ⟨Ok, hOk⟩ : ∃ s, (own N.l).getD k 0 = s := ⟨_, rfl⟩
            obtain ⟨Oj, hOj⟩ : ∃ s, (own N.l).getD j 0 = s := ⟨_, rfl⟩
            have hTb := HPT2.out m
            rw [HP.out] at hTb
            have hRb := HPRE2.out j
            rw [hR] at hRb
            have hft : (ins.take (m + 1)).foldl ((RW a f).in1 (own N.l) L ⟨4, lt, ins⟩) ((RW a f).start ⟨4, lt, ins⟩) = T + R * 2 ^ crd (minus (minus Ok Oj) f) := by
              rw [List.take_succ_eq_append_getElem hmlt, List.foldl_append, HP.out]
              show (RW a f).in1 (own N.l) L ⟨4, lt, ins⟩ T ins[m] = _
              unfold Rg.in1
              rw [if_neg (show ¬ ((4 : Int) = 1 ∨ (4 : Int) = 3) by decide), hj, HLL.out, Int.toNat_natCast, RW_gap, hR, hOk, hOj]
              rfl
            have HFT := Lib.hid hft
            have HR := Lib.hid hR
            have HOK := Lib.hid hOk
            have HOJ := Lib.hid hOj
            have q1 := hE
            obtain ⟨e1, e2, e3, e4, e5, e6, e7, f1⟩ := q1.two k hlt HLL.out j hjk R HR.out HOK.out HOJ.out
            have j0 : (0 : Int) ≤ (j : Int) := by omega
            have j1 : (j : Int) < (N.l.length : Int) := by omega
            have hQ2 := hE.out.lt
            have hz1 := Nat.le_trans (n8_short T hTb) (show 1000 ≤ 1000000 by decide)
            have hz2 := Nat.le_trans (n8_short R hRb) (show 1000 ≤ 1000000 by decide)
            clear hft hii hR hOk hOj hj
            have hdc := crd_le (minus (minus Ok Oj) f)
            have hc1 := fun W h => count1_any W R Ok Oj f (w.heap.size + 1) hRb h
            have hz3 : n8 (R * 2 ^ crd (minus (minus Ok Oj) f)) ≤ 1000000 := Nat.le_trans (n8_big _ (big_lt_200 hRb (by omega))) (by decide)
            have had := fun W => add_any W T (R * 2 ^ crd (minus (minus Ok Oj) f)) hz1 hz3
            obtain ⟨U, hU⟩ : ∃ U, R * 2 ^ crd (minus (minus Ok Oj) f) = U := ⟨_, rfl⟩
            simp only [hU] at hc1 had
            rw [hU] at HFT
            obtain ⟨V, hV⟩ : ∃ V, T + U = V := ⟨_, rfl⟩
            simp only [hV] at had
            rw [hV] at HFT
            have HC1 := Lib.hid hc1
            have HAD := Lib.hid had
            clear hc1 had hU hV hE hz3 hdc
            go_wp2_with fail
            replace q1 := q1.drew
            obtain ⟨e1, e2, e3, e4, e5, e6, e7, f1⟩ := q1.two k hlt HLL.out j hjk R HR.out HOK.out HOJ.out
            refine wp_region_heldE (fun w' => w'.cell? ⟨w.heap.size + 1 + 1 + 1, k, none⟩ = some (Value.string (natB T)) ∧ w'.cell? ⟨w.heap.size + 1 + 1 + 1, j, none⟩ = some (Value.string (natB R)) ∧ w'.cell? ⟨g, 2, none⟩ = some (Value.slice (some ⟨q, 0, none⟩) N.l.length N.l.length) ∧ w'.cell? ⟨q, k * 2, none⟩ = some (Value.int .u64 (lo Ok : Int)) ∧ w'.cell? ⟨q, k * 2 + 1, none⟩ = some (Value.int .u64 (hi Ok : Int)) ∧ w'.cell? ⟨q, j * 2, none⟩ = some (Value.int .u64 (lo Oj : Int)) ∧ w'.cell? ⟨q, j * 2 + 1, none⟩ = some (Value.int .u64 (hi Oj : Int))) 28 (by kernel_rfl) ⟨e1, e2, e3, e4, e5, e6, e7⟩ (fun hS => ?_)
            refine wpAnyE_take (i := 0) (v := ?_) hS (by kernel_rfl) rfl (by kernel_rfl) (by kernel_rfl) (fun _ _ _ h => h) (Or.inl ⟨by rfl, ?_⟩) ?_
            rotate_left
            · as_aux_lemma =>
              (intro w hSw; go_simp; try with_reducible rfl)
            try simp only [Act.put, List.getElem_toArray, List.getElem_cons_succ, List.getElem_cons_zero, List.setIfInBounds_toArray, List.set_cons_zero, List.set_cons_succ]
            refine wpAnyE_take (i := 1) (v := ?_) hS (by kernel_rfl) rfl (by kernel_rfl) (by kernel_rfl) (fun _ _ _ h => h) (Or.inl ⟨by rfl, ?_⟩) ?_
            rotate_left
            · as_aux_lemma =>
              (intro w hSw; go_simp; try with_reducible rfl)
            try simp only [Act.put, List.getElem_toArray, List.getElem_cons_succ, List.getElem_cons_zero, List.setIfInBounds_toArray, List.set_cons_zero, List.set_cons_succ]
            refine wpAnyE_take (i := 2) (v := ?_) hS (by kernel_rfl) rfl (by kernel_rfl) (by kernel_rfl) (fun _ _ _ h => h) (Or.inl ⟨by rfl, ?_⟩) ?_
            rotate_left
            · as_aux_lemma =>
              (intro w hSw; go_simp; try with_reducible rfl)
            try simp only [Act.put, List.getElem_toArray, List.getElem_cons_succ, List.getElem_cons_zero, List.setIfInBounds_toArray, List.set_cons_zero, List.set_cons_succ]
            refine wpAnyE_take (i := 3) (v := ?_) hS (by kernel_rfl) rfl (by kernel_rfl) (by kernel_rfl) (fun _ _ _ h => h) (Or.inl ⟨by rfl, ?_⟩) ?_
            rotate_left
            · as_aux_lemma =>
              (intro w hSw; go_simp; try with_reducible rfl)
            try simp only [Act.put, List.getElem_toArray, List.getElem_cons_succ, List.getElem_cons_zero, List.setIfInBounds_toArray, List.set_cons_zero, List.set_cons_succ]
            refine wpAnyE_take (i := 4) (v := ?_) hS (by kernel_rfl) rfl (by kernel_rfl) (by kernel_rfl) (fun _ _ _ h => h) (Or.inl ⟨by rfl, ?_⟩) ?_
            rotate_left
            · as_aux_lemma =>
              (intro w hSw; go_simp; try with_reducible rfl)
            try simp only [Act.put, List.getElem_toArray, List.getElem_cons_succ, List.getElem_cons_zero, List.setIfInBounds_toArray, List.set_cons_zero, List.set_cons_succ]
            refine wpAnyE_take (i := 5) (v := ?_) hS (by kernel_rfl) rfl (by kernel_rfl) (by kernel_rfl) (fun _ _ _ h => h) (Or.inl ⟨by rfl, ?_⟩) ?_
            rotate_left
            · as_aux_lemma =>
              (intro w hSw; go_simp; try with_reducible rfl)
            try simp only [Act.put, List.getElem_toArray, List.getElem_cons_succ, List.getElem_cons_zero, List.setIfInBounds_toArray, List.set_cons_zero, List.set_cons_succ]
            refine wpAnyE_take (i := 6) (v := ?_) hS (by kernel_rfl) rfl (by kernel_rfl) (by kernel_rfl) (fun _ _ _ h => h) (Or.inl ⟨by rfl, ?_⟩) ?_
            rotate_left
            · as_aux_lemma =>
              (intro w hSw; go_simp; try with_reducible rfl)
            try simp only [Act.put, List.getElem_toArray, List.getElem_cons_succ, List.getElem_cons_zero, List.setIfInBounds_toArray, List.set_cons_zero, List.set_cons_succ]
            refine wpAnyE_take (i := 7) (v := ?_) hS (by kernel_rfl) rfl (by kernel_rfl) (by kernel_rfl) (fun _ _ _ h => h) (Or.inl ⟨by rfl, ?_⟩) ?_
            rotate_left
            · as_aux_lemma =>
              (intro w hSw; go_simp; try with_reducible rfl)
            try simp only [Act.put, List.getElem_toArray, List.getElem_cons_succ, List.getElem_cons_zero, List.setIfInBounds_toArray, List.set_cons_zero, List.set_cons_succ]
            refine wpAnyE_take (i := 8) (v := ?_) hS (by kernel_rfl) rfl (by kernel_rfl) (by kernel_rfl) (fun _ _ _ h => h) (Or.inl ⟨by rfl, ?_⟩) ?_
            rotate_left
            · as_aux_lemma =>
              (intro w hSw; go_simp; try with_reducible rfl)
            try simp only [Act.put, List.getElem_toArray, List.getElem_cons_succ, List.getElem_cons_zero, List.setIfInBounds_toArray, List.set_cons_zero, List.set_cons_succ]
            refine wpAnyE_take (i := 9) (v := ?_) hS (by kernel_rfl) rfl (by kernel_rfl) (by kernel_rfl) (fun _ _ _ h => h) (Or.inl ⟨by rfl, ?_⟩) ?_
            rotate_left
            · as_aux_lemma =>
              (intro w hSw; go_simp; try with_reducible rfl)
            try simp only [Act.put, List.getElem_toArray, List.getElem_cons_succ, List.getElem_cons_zero, List.setIfInBounds_toArray, List.set_cons_zero, List.set_cons_succ]
            refine wpAnyE_take (i := 10) (v := ?_) hS (by kernel_rfl) rfl (by kernel_rfl) (by kernel_rfl) (fun _ _ _ h => h) (Or.inl ⟨by rfl, ?_⟩) ?_
            rotate_left
            · as_aux_lemma =>
              (intro w hSw; go_simp; try with_reducible rfl)
            try simp only [Act.put, List.getElem_toArray, List.getElem_cons_succ, List.getElem_cons_zero, List.setIfInBounds_toArray, List.set_cons_zero, List.set_cons_succ]
            refine wpAnyE_take (i := 11) (v := ?_) hS (by kernel_rfl) rfl (by kernel_rfl) (by kernel_rfl) (fun _ _ _ h => h) (Or.inl ⟨by rfl, ?_⟩) ?_
            rotate_left
            · as_aux_lemma =>
              (intro w hSw; go_simp; try with_reducible rfl)
            try simp only [Act.put, List.getElem_toArray, List.getElem_cons_succ, List.getElem_cons_zero, List.setIfInBounds_toArray, List.set_cons_zero, List.set_cons_succ]
            refine wpAnyE_take (i := 12) (v := ?_) hS (by kernel_rfl) rfl (by kernel_rfl) (by kernel_rfl) (fun _ _ _ h => h) (Or.inl ⟨by rfl, ?_⟩) ?_
            rotate_left
            · as_aux_lemma =>
              (intro w hSw; go_simp; try with_reducible rfl)
            try simp only [Act.put, List.getElem_toArray, List.getElem_cons_succ, List.getElem_cons_zero, List.setIfInBounds_toArray, List.set_cons_zero, List.set_cons_succ]
            refine wpAnyE_take (i := 13) (v := ?_) hS (by kernel_rfl) rfl (by kernel_rfl) (by kernel_rfl) (fun _ _ _ h => h) (Or.inl ⟨by rfl, ?_⟩) ?_
            rotate_left
            · as_aux_lemma =>
              (intro w hSw; go_simp; try with_reducible rfl)
            try simp only [Act.put, List.getElem_toArray, List.getElem_cons_succ, List.getElem_cons_zero, List.setIfInBounds_toArray, List.set_cons_zero, List.set_cons_succ]
            refine wpAnyE_take (i := 14) (v := ?_) hS (by kernel_rfl) rfl (by kernel_rfl) (by kernel_rfl) (fun _ _ _ h => h) (Or.inl ⟨by rfl, ?_⟩) ?_
            rotate_left
            · as_aux_lemma =>
              (intro w hSw; go_simp; try with_reducible rfl)
            try simp only [Act.put, List.getElem_toArray, List.getElem_cons_succ, List.getElem_cons_zero, List.setIfInBounds_toArray, List.set_cons_zero, List.set_cons_succ]
            refine wpAnyE_take (i := 15) (v := ?_) hS (by kernel_rfl) rfl (by kernel_rfl) (by kernel_rfl) (fun _ _ _ h => h) (Or.inl ⟨by rfl, ?_⟩) ?_
            rotate_left
            · as_aux_lemma =>
              (intro w hSw; go_simp; try with_reducible rfl)
            try simp only [Act.put, List.getElem_toArray, List.getElem_cons_succ, List.getElem_cons_zero, List.setIfInBounds_toArray, List.set_cons_zero, List.set_cons_succ]
            refine wpAnyE_take (i := 16) (v := ?_) hS (by kernel_rfl) rfl (by kernel_rfl) (by kernel_rfl) (fun _ _ _ h => h) (Or.inl ⟨by rfl, ?_⟩) ?_
            rotate_left
            · as_aux_lemma =>
              (intro w hSw; go_simp; try with_reducible rfl)
            try simp only [Act.put, List.getElem_toArray, List.getElem_cons_succ, List.getElem_cons_zero, List.setIfInBounds_toArray, List.set_cons_zero, List.set_cons_succ]
            refine wpAnyE_take (i := 17) (v := ?_) hS (by kernel_rfl) rfl (by kernel_rfl) (by kernel_rfl) (fun _ _ _ h => h) (Or.inl ⟨by rfl, ?_⟩) ?_
            rotate_left
            · as_aux_lemma =>
              (intro w hSw; go_simp; try with_reducible rfl)
            try simp only [Act.put, List.getElem_toArray, List.getElem_cons_succ, List.getElem_cons_zero, List.setIfInBounds_toArray, List.set_cons_zero, List.set_cons_succ]
            refine wpAnyE_take (i := 18) (v := ?_) hS (by kernel_rfl) rfl (by kernel_rfl) (by kernel_rfl) (fun _ _ _ h => h) (Or.inl ⟨by rfl, ?_⟩) ?_
            rotate_left
            · as_aux_lemma =>
              (intro w hSw; go_simp; try with_reducible rfl)
            try simp only [Act.put, List.getElem_toArray, List.getElem_cons_succ, List.getElem_cons_zero, List.setIfInBounds_toArray, List.set_cons_zero, List.set_cons_succ]
            refine wpAnyE_take (i := 19) (v := ?_) hS (by kernel_rfl) rfl (by kernel_rfl) (by kernel_rfl) (fun _ _ _ h => h) (Or.inl ⟨by rfl, ?_⟩) ?_
            rotate_left
            · as_aux_lemma =>
              (intro w hSw; go_simp; try with_reducible rfl)
            try simp only [Act.put, List.getElem_toArray, List.getElem_cons_succ, List.getElem_cons_zero, List.setIfInBounds_toArray, List.set_cons_zero, List.set_cons_succ]
            refine wpAnyE_take (i := 20) (v := ?_) hS (by kernel_rfl) rfl (by kernel_rfl) (by kernel_rfl) (fun _ _ _ h => h) (Or.inl ⟨by rfl, ?_⟩) ?_
            rotate_left
            · as_aux_lemma =>
              (intro w hSw; go_simp; try with_reducible rfl)
            try simp only [Act.put, List.getElem_toArray, List.getElem_cons_succ, List.getElem_cons_zero, List.setIfInBounds_toArray, List.set_cons_zero, List.set_cons_succ]
            refine wpAnyE_take (i := 21) (v := ?_) hS (by kernel_rfl) rfl (by kernel_rfl) (by kernel_rfl) (fun _ _ _ h => h) (Or.inl ⟨by rfl, ?_⟩) ?_
            rotate_left
            · as_aux_lemma =>
              (intro w hSw; go_simp; try with_reducible rfl)
            try simp only [Act.put, List.getElem_toArray, List.getElem_cons_succ, List.getElem_cons_zero, List.setIfInBounds_toArray, List.set_cons_zero, List.set_cons_succ]
            refine wpAnyE_take (i := 22) (v := ?_) hS (by kernel_rfl) rfl (by kernel_rfl) (by kernel_rfl) (fun _ _ _ h => h) (Or.inl ⟨by rfl, ?_⟩) ?_
            rotate_left
            · as_aux_lemma =>
              (intro w hSw; go_simp; try with_reducible rfl)
            try simp only [Act.put, List.getElem_toArray, List.getElem_cons_succ, List.getElem_cons_zero, List.setIfInBounds_toArray, List.set_cons_zero, List.set_cons_succ]
            refine wpAnyE_take (i := 23) (v := ?_) hS (by kernel_rfl) rfl (by kernel_rfl) (by kernel_rfl) (fun _ _ _ h => h) (Or.inl ⟨by rfl, ?_⟩) ?_
            rotate_left
            · as_aux_lemma =>
              (intro w hSw; go_simp; try with_reducible rfl)
            try simp only [Act.put, List.getElem_toArray, List.getElem_cons_succ, List.getElem_cons_zero, List.setIfInBounds_toArray, List.set_cons_zero, List.set_cons_succ]
            refine wpAnyE_take (i := 24) (v := ?_) hS (by kernel_rfl) rfl (by kernel_rfl) (by kernel_rfl) (fun _ _ _ h => h) (Or.inl ⟨by rfl, ?_⟩) ?_
            rotate_left
            · as_aux_lemma =>
              (intro w hSw; go_simp; try with_reducible rfl)
            try simp only [Act.put, List.getElem_toArray, List.getElem_cons_succ, List.getElem_cons_zero, List.setIfInBounds_toArray, List.set_cons_zero, List.set_cons_succ]
            refine wpAnyE_one 25 (by kernel_rfl) rfl (fun K hK => ?_)
            go_simp
            go_at_call 80
            (with_reducible refine (HC1.out _ q1.f).mono ?_)
            rintro e w5 ⟨rfl, hb5⟩
            replace q1 := q1.below hb5
            obtain ⟨e1, e2, e3, e4, e5, e6, e7, f1⟩ := q1.two k hlt HLL.out j hjk R HR.out HOK.out HOJ.out
            refine hK.out _ _ (fun _ => ⟨e1, e2, e3, e4, e5, e6, e7⟩) (fun hS => ?_)
            replace hS := hS (by decide)
            clear hK K
            try simp only [Act.put, List.getElem_toArray, List.getElem_cons_succ, List.getElem_cons_zero, List.setIfInBounds_toArray, List.set_cons_zero, List.set_cons_succ]
            refine wpAnyE_one 26 (by kernel_rfl) rfl (fun K hK => ?_)
            go_simp
            go_at_call 21
            (with_reducible refine (HAD.out _).mono ?_)
            rintro e w5 ⟨rfl, hb5⟩
            replace q1 := q1.below hb5
            obtain ⟨e1, e2, e3, e4, e5, e6, e7, f1⟩ := q1.two k hlt HLL.out j hjk R HR.out HOK.out HOJ.out
            refine hK.out _ _ (fun _ => ⟨e1, e2, e3, e4, e5, e6, e7⟩) (fun hS => ?_)
            replace hS := hS (by decide)
            clear hK K
            try simp only [Act.put, List.getElem_toArray, List.getElem_cons_succ, List.getElem_cons_zero, List.setIfInBounds_toArray, List.set_cons_zero, List.set_cons_succ]
            refine wpAnyE_take (i := 27) (v := ?_) hS (by kernel_rfl) rfl (by kernel_rfl) (by kernel_rfl) (fun _ _ _ h => h) (Or.inl ⟨by rfl, ?_⟩) ?_
            rotate_left
            · as_aux_lemma =>
              (intro w hSw; go_simp; try with_reducible rfl)
            try simp only [Act.put, List.getElem_toArray, List.getElem_cons_succ, List.getElem_cons_zero, List.setIfInBounds_toArray, List.set_cons_zero, List.set_cons_succ]
            refine wpAnyE_one 28 (by kernel_rfl) rfl (fun K hK => ?_)
            go_simp
            refine hK.out _ _ (fun h => absurd rfl h) (fun _ => ?_)
            clear hK K
            refine wpAnyE_done (by kernel_rfl) ?_ _
            go_wp2
            go_roundw
            case rel => exact ⟨m + 1, V, by omega, by go_num, HFT, q1.set hgl hql V k HLL.out.symm⟩
            case measure => simp [intOf]; omega
          · as_aux_lemma =>
            obtain rfl : m = ins.length := by omega
            have hfo := HP.out
            rw [List.take_length] at hfo
            have hst : (RW a f).step (own N.l) L ⟨4, lt, ins⟩ = T := hfo
            have hnx := HT.out
            rw [hst] at hnx
            have HNX := Lib.hid hnx
            clear hfo hst hnx
            go_wp2
            go_roundw
            case rel => exact ⟨k + 1, by omega, by go_num, by rw [HNX.out]; exact hE⟩
            case measure => simp [intOf]; omega
    · as_aux_lemma =>
      obtain rfl : k = N.l.length := by omega
      have hTb := HPRE.out N.l.length (N.l.length - 1) (Nat.le_refl _)
      rw [List.take_length] at hE hTb
      have hend := HEND.out
      obtain ⟨M, hM⟩ : ∃ M, scan ((RW a f).step (own N.l)) [] N.l = M := ⟨_, rfl⟩
      rw [hM] at hE hend hTb
      obtain ⟨T, hT⟩ : ∃ T, M.getD (N.l.length - 1) 0 = T := ⟨_, rfl⟩
      obtain ⟨Ok, hOk⟩ : ∃ s, (own N.l).getD (N.l.length - 1) 0 = s := ⟨_, rfl⟩
      rw [hT, hOk] at hend
      rw [hT] at hTb
      have hi2 : (0 : Int) ≤ (N.l.length : Int) - 1 := by omega
      have hi4 : (1 : Int) ≤ (N.l.length : Int) := by omega
      have hrl := hE.r.lt
      have hi3 : (N.l.length : Int) - 1 < (N.l.length : Int) := by omega
      have hwr : IntKind.i64.wrap ((N.l.length : Int) - 1) = (N.l.length : Int) - 1 := by rw [IntKind.wrap_i64]; omega
      have htn : ((N.l.length : Int) - 1).toNat = N.l.length - 1 := by omega
      have hQ := hE.out.lt
      have HOK := Lib.hid hOk
      have HTT := Lib.hid hT
      have ht1 := fun W h => count1_any W T (allTo N.n) Ok f (w.heap.size + 1) hTb h
      have hal := fun W => all_any W N.n
      rw [← hend] at ht1
      obtain ⟨X, hX⟩ : ∃ X, allTo N.n = X := ⟨_, rfl⟩
      simp only [hX] at ht1 hal
      have HT1 := Lib.hid ht1
      have HAL := Lib.hid hal
      have q1 := hE
      clear hend HEND hT hOk ht1 hal hX hE HPRE HPT HF hM
      go_wp2_with fail
      replace q1 := q1.drew
      have t1 := natsAt q1.out (N.l.length - 1) T (by omega) HTT.out
      obtain ⟨s1, s2, s3⟩ := lsCells q1.ls
      obtain ⟨o1, o2, _, _⟩ := setsCells q1.own (N.l.length - 1) (by omega)
      rw [HOK.out] at o1 o2
      have f0 := boxCell q1.r
      have f1 := q1.r.frozen 0
      refine wp_region_heldE (fun w' => w'.cell? ⟨w.heap.size + 1 + 1 + 1, N.l.length - 1, none⟩ = some (Value.string (natB T)) ∧ w'.cell? ⟨g, 0, none⟩ = some (Value.int .i64 N.n) ∧ w'.cell? ⟨g, 2, none⟩ = some (Value.slice (some ⟨q, 0, none⟩) N.l.length N.l.length) ∧ w'.cell? ⟨q, (N.l.length - 1) * 2, none⟩ = some (Value.int .u64 (lo Ok : Int)) ∧ w'.cell? ⟨q, (N.l.length - 1) * 2 + 1, none⟩ = some (Value.int .u64 (hi Ok : Int))) 23 (by kernel_rfl) ⟨t1, s1, s3, o1, o2⟩ (fun hS => ?_)
      refine wpAnyE_take (i := 0) (v := ?_) hS (by kernel_rfl) rfl (by kernel_rfl) (by kernel_rfl) (fun _ _ _ h => h) (Or.inl ⟨by rfl, ?_⟩) ?_
      rotate_left
      · as_aux_lemma =>
        (intro w hSw; go_simp; try with_reducible rfl)
      try simp only [Act.put, List.getElem_toArray, List.getElem_cons_succ, List.getElem_cons_zero, List.setIfInBounds_toArray, List.set_cons_zero, List.set_cons_succ]
      refine wpAnyE_take (i := 1) (v := ?_) hS (by kernel_rfl) rfl (by kernel_rfl) (by kernel_rfl) (fun _ _ _ h => h) (Or.inl ⟨by rfl, ?_⟩) ?_
      rotate_left
      · as_aux_lemma =>
        (intro w hSw; go_simp; try with_reducible rfl)
      try simp only [Act.put, List.getElem_toArray, List.getElem_cons_succ, List.getElem_cons_zero, List.setIfInBounds_toArray, List.set_cons_zero, List.set_cons_succ]
      refine wpAnyE_take (i := 2) (v := ?_) hS (by kernel_rfl) rfl (by kernel_rfl) (by kernel_rfl) (fun _ _ _ h => h) (Or.inl ⟨by rfl, ?_⟩) ?_
      rotate_left
      · as_aux_lemma =>
        (intro w hSw; go_simp; try with_reducible rfl)
      try simp only [Act.put, List.getElem_toArray, List.getElem_cons_succ, List.getElem_cons_zero, List.setIfInBounds_toArray, List.set_cons_zero, List.set_cons_succ]
      refine wpAnyE_take (i := 3) (v := ?_) hS (by kernel_rfl) rfl (by kernel_rfl) (by kernel_rfl) (fun _ _ _ h => h) (Or.inl ⟨by rfl, ?_⟩) ?_
      rotate_left
      · as_aux_lemma =>
        (intro w hSw; go_simp; try with_reducible rfl)
      try simp only [Act.put, List.getElem_toArray, List.getElem_cons_succ, List.getElem_cons_zero, List.setIfInBounds_toArray, List.set_cons_zero, List.set_cons_succ]
      refine wpAnyE_take (i := 4) (v := ?_) hS (by kernel_rfl) rfl (by kernel_rfl) (by kernel_rfl) (fun _ _ _ h => h) (Or.inl ⟨by rfl, ?_⟩) ?_
      rotate_left
      · as_aux_lemma =>
        (intro w hSw; go_simp; try with_reducible rfl)
      try simp only [Act.put, List.getElem_toArray, List.getElem_cons_succ, List.getElem_cons_zero, List.setIfInBounds_toArray, List.set_cons_zero, List.set_cons_succ]
      refine wpAnyE_take (i := 5) (v := ?_) hS (by kernel_rfl) rfl (by kernel_rfl) (by kernel_rfl) (fun _ _ _ h => h) (Or.inl ⟨by rfl, ?_⟩) ?_
      rotate_left
      · as_aux_lemma =>
        (intro w hSw; go_simp; try with_reducible rfl)
      try simp only [Act.put, List.getElem_toArray, List.getElem_cons_succ, List.getElem_cons_zero, List.setIfInBounds_toArray, List.set_cons_zero, List.set_cons_succ]
      refine wpAnyE_take (i := 6) (v := ?_) hS (by kernel_rfl) rfl (by kernel_rfl) (by kernel_rfl) (fun _ _ _ h => h) (Or.inl ⟨by rfl, ?_⟩) ?_
      rotate_left
      · as_aux_lemma =>
        (intro w hSw; go_simp; try with_reducible rfl)
      try simp only [Act.put, List.getElem_toArray, List.getElem_cons_succ, List.getElem_cons_zero, List.setIfInBounds_toArray, List.set_cons_zero, List.set_cons_succ]
      refine wpAnyE_take (i := 7) (v := ?_) hS (by kernel_rfl) rfl (by kernel_rfl) (by kernel_rfl) (fun _ _ _ h => h) (Or.inl ⟨by rfl, ?_⟩) ?_
      rotate_left
      · as_aux_lemma =>
        (intro w hSw; go_simp; try with_reducible rfl)
      try simp only [Act.put, List.getElem_toArray, List.getElem_cons_succ, List.getElem_cons_zero, List.setIfInBounds_toArray, List.set_cons_zero, List.set_cons_succ]
      refine wpAnyE_take (i := 8) (v := ?_) hS (by kernel_rfl) rfl (by kernel_rfl) (by kernel_rfl) (fun _ _ _ h => h) (Or.inl ⟨by rfl, ?_⟩) ?_
      rotate_left
      · as_aux_lemma =>
        (intro w hSw; go_simp; try with_reducible rfl)
      try simp only [Act.put, List.getElem_toArray, List.getElem_cons_succ, List.getElem_cons_zero, List.setIfInBounds_toArray, List.set_cons_zero, List.set_cons_succ]
      refine wpAnyE_take (i := 9) (v := ?_) hS (by kernel_rfl) rfl (by kernel_rfl) (by kernel_rfl) (fun _ _ _ h => h) (Or.inl ⟨by rfl, ?_⟩) ?_
      rotate_left
      · as_aux_lemma =>
        (intro w hSw; go_simp; try with_reducible rfl)
      try simp only [Act.put, List.getElem_toArray, List.getElem_cons_succ, List.getElem_cons_zero, List.setIfInBounds_toArray, List.set_cons_zero, List.set_cons_succ]
      refine wpAnyE_take (i := 10) (v := ?_) hS (by kernel_rfl) rfl (by kernel_rfl) (by kernel_rfl) (fun _ _ _ h => h) (Or.inl ⟨by rfl, ?_⟩) ?_
      rotate_left
      · as_aux_lemma =>
        (intro w hSw; go_simp; try with_reducible rfl)
      try simp only [Act.put, List.getElem_toArray, List.getElem_cons_succ, List.getElem_cons_zero, List.setIfInBounds_toArray, List.set_cons_zero, List.set_cons_succ]
      refine wpAnyE_take (i := 11) (v := ?_) hS (by kernel_rfl) rfl (by kernel_rfl) (by kernel_rfl) (fun _ _ _ h => h) (Or.inl ⟨by rfl, ?_⟩) ?_
      rotate_left
      · as_aux_lemma =>
        (intro w hSw; go_simp; try with_reducible rfl)
      try simp only [Act.put, List.getElem_toArray, List.getElem_cons_succ, List.getElem_cons_zero, List.setIfInBounds_toArray, List.set_cons_zero, List.set_cons_succ]
      refine wpAnyE_take (i := 13) (v := ?_) hS (by kernel_rfl) rfl (by kernel_rfl) (by kernel_rfl) (fun _ _ _ h => h) (Or.inl ⟨by rfl, ?_⟩) ?_
      rotate_left
      · as_aux_lemma =>
        (intro w hSw; go_simp; try with_reducible rfl)
      try simp only [Act.put, List.getElem_toArray, List.getElem_cons_succ, List.getElem_cons_zero, List.setIfInBounds_toArray, List.set_cons_zero, List.set_cons_succ]
      refine wpAnyE_take (i := 14) (v := ?_) hS (by kernel_rfl) rfl (by kernel_rfl) (by kernel_rfl) (fun _ _ _ h => h) (Or.inl ⟨by rfl, ?_⟩) ?_
      rotate_left
      · as_aux_lemma =>
        (intro w hSw; go_simp; try with_reducible rfl)
      try simp only [Act.put, List.getElem_toArray, List.getElem_cons_succ, List.getElem_cons_zero, List.setIfInBounds_toArray, List.set_cons_zero, List.set_cons_succ]
      refine wpAnyE_take (i := 15) (v := ?_) hS (by kernel_rfl) rfl (by kernel_rfl) (by kernel_rfl) (fun _ _ _ h => h) (Or.inl ⟨by rfl, ?_⟩) ?_
      rotate_left
      · as_aux_lemma =>
        (intro w hSw; go_simp; try with_reducible rfl)
      try simp only [Act.put, List.getElem_toArray, List.getElem_cons_succ, List.getElem_cons_zero, List.setIfInBounds_toArray, List.set_cons_zero, List.set_cons_succ]
      refine wpAnyE_take (i := 16) (v := ?_) hS (by kernel_rfl) rfl (by kernel_rfl) (by kernel_rfl) (fun _ _ _ h => h) (Or.inl ⟨by rfl, ?_⟩) ?_
      rotate_left
      · as_aux_lemma =>
        (intro w hSw; go_simp; try with_reducible rfl)
      try simp only [Act.put, List.getElem_toArray, List.getElem_cons_succ, List.getElem_cons_zero, List.setIfInBounds_toArray, List.set_cons_zero, List.set_cons_succ]
      refine wpAnyE_take (i := 17) (v := ?_) hS (by kernel_rfl) rfl (by kernel_rfl) (by kernel_rfl) (fun _ _ _ h => h) (Or.inl ⟨by rfl, ?_⟩) ?_
      rotate_left
      · as_aux_lemma =>
        (intro w hSw; go_simp; try with_reducible rfl)
      try simp only [Act.put, List.getElem_toArray, List.getElem_cons_succ, List.getElem_cons_zero, List.setIfInBounds_toArray, List.set_cons_zero, List.set_cons_succ]
      refine wpAnyE_take (i := 18) (v := ?_) hS (by kernel_rfl) rfl (by kernel_rfl) (by kernel_rfl) (fun _ _ _ h => h) (Or.inl ⟨by rfl, ?_⟩) ?_
      rotate_left
      · as_aux_lemma =>
        (intro w hSw; go_simp; try with_reducible rfl)
      try simp only [Act.put, List.getElem_toArray, List.getElem_cons_succ, List.getElem_cons_zero, List.setIfInBounds_toArray, List.set_cons_zero, List.set_cons_succ]
      refine wpAnyE_take (i := 19) (v := ?_) hS (by kernel_rfl) rfl (by kernel_rfl) (by kernel_rfl) (fun _ _ _ h => h) (Or.inl ⟨by rfl, ?_⟩) ?_
      rotate_left
      · as_aux_lemma =>
        (intro w hSw; go_simp; try with_reducible rfl)
      try simp only [Act.put, List.getElem_toArray, List.getElem_cons_succ, List.getElem_cons_zero, List.setIfInBounds_toArray, List.set_cons_zero, List.set_cons_succ]
      refine wpAnyE_take (i := 20) (v := ?_) hS (by kernel_rfl) rfl (by kernel_rfl) (by kernel_rfl) (fun _ _ _ h => h) (Or.inl ⟨by rfl, ?_⟩) ?_
      rotate_left
      · as_aux_lemma =>
        (intro w hSw; go_simp; try with_reducible rfl)
      try simp only [Act.put, List.getElem_toArray, List.getElem_cons_succ, List.getElem_cons_zero, List.setIfInBounds_toArray, List.set_cons_zero, List.set_cons_succ]
      refine wpAnyE_take (i := 21) (v := ?_) hS (by kernel_rfl) rfl (by kernel_rfl) (by kernel_rfl) (fun _ _ _ h => h) (Or.inl ⟨by rfl, ?_⟩) ?_
      rotate_left
      · as_aux_lemma =>
        (intro w hSw; go_simp; try with_reducible rfl)
      try simp only [Act.put, List.getElem_toArray, List.getElem_cons_succ, List.getElem_cons_zero, List.setIfInBounds_toArray, List.set_cons_zero, List.set_cons_succ]
      refine wpAnyE_one 12 (by kernel_rfl) rfl (fun K hK => ?_)
      go_simp
      go_at_call 53
      (with_reducible refine (HAL.out _).mono ?_)
      rintro e w5 ⟨rfl, hb5⟩
      replace q1 := q1.below hb5
      have t1 := natsAt q1.out (N.l.length - 1) T (by omega) HTT.out
      obtain ⟨s1, s2, s3⟩ := lsCells q1.ls
      obtain ⟨o1, o2, _, _⟩ := setsCells q1.own (N.l.length - 1) (by omega)
      rw [HOK.out] at o1 o2
      have f0 := boxCell q1.r
      have f1 := q1.r.frozen 0
      refine hK.out _ _ (fun _ => ⟨t1, s1, s3, o1, o2⟩) (fun hS => ?_)
      replace hS := hS (by decide)
      clear hK K
      try simp only [Act.put, List.getElem_toArray, List.getElem_cons_succ, List.getElem_cons_zero, List.setIfInBounds_toArray, List.set_cons_zero, List.set_cons_succ]
      refine wpAnyE_one 22 (by kernel_rfl) rfl (fun K hK => ?_)
      go_simp
      go_at_call 80
      (with_reducible refine (HT1.out _ q1.f).mono ?_)
      rintro e w5 ⟨rfl, hb5⟩
      replace q1 := q1.below hb5
      have t1 := natsAt q1.out (N.l.length - 1) T (by omega) HTT.out
      obtain ⟨s1, s2, s3⟩ := lsCells q1.ls
      obtain ⟨o1, o2, _, _⟩ := setsCells q1.own (N.l.length - 1) (by omega)
      rw [HOK.out] at o1 o2
      have f0 := boxCell q1.r
      have f1 := q1.r.frozen 0
      refine hK.out _ _ (fun _ => ⟨t1, s1, s3, o1, o2⟩) (fun hS => ?_)
      replace hS := hS (by decide)
      clear hK K
      try simp only [Act.put, List.getElem_toArray, List.getElem_cons_succ, List.getElem_cons_zero, List.setIfInBounds_toArray, List.set_cons_zero, List.set_cons_succ]
      refine wpAnyE_one 23 (by kernel_rfl) rfl (fun K hK => ?_)
      go_simp
      refine hK.out _ _ (fun h => absurd rfl h) (fun _ => ?_)
      clear hK K
      refine wpAnyE_done (by kernel_rfl) ?_ _
      go_wp2
      exact ret_nat rfl _ rfl (boxSet q1.r _) rfl ⟨rfl, q1.bl.setCell (by simp <;> omega) _⟩
end Go.Proofs.YtemgfhdgpkmmaaaDoor
