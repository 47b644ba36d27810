/- The walks of after and Seek. -/
import Derived.Test.YtemgfhdgpkmmaaaDoorL8
set_option linter.unusedSimpArgs false
set_option linter.unusedVariables false
open Go Go.RowKit Cs
namespace Go.Proofs.YtemgfhdgpkmmaaaDoor
theorem LsAt.below {w W : World} {N : Nt} {A : Option Addr} {c g q : Nat} (h : LsAt w N A c g q) (hb : Below w.heap.size w W) : LsAt W N A c g q := ⟨rowBelow h.row hb, rowBelow h.sets hb⟩
/-- The boxes of after: the set, the result. -/
structure AfR (w : World) (a : Nat) (wr : World) : Prop where
  a : wr.rowIs w.heap.size 27 2 (setF a)
  r : wr.rowIs (w.heap.size + 1) 27 2 (setF 0)
  bl : Below w.heap.size w wr
section
variable {w wr w' : World} {a : Nat}
theorem AfR.below (h : AfR w a wr) (hb : Below wr.heap.size wr w') : AfR w a w' := ⟨rowBelow h.a hb, rowBelow h.r hb, Cs.Below.trans' h.bl hb h.bl.size⟩
theorem AfR.cells (h : AfR w a wr) : wr.cell? ⟨w.heap.size, 0, none⟩ = some (.int .u64 (lo a : Int)) ∧ wr.cell? ⟨w.heap.size, 1, none⟩ = some (.int .u64 (hi a : Int)) ∧ wr.cell? ⟨w.heap.size + 1, 0, none⟩ = some (.int .u64 (lo 0 : Int)) ∧ wr.cell? ⟨w.heap.size + 1, 1, none⟩ = some (.int .u64 (hi 0 : Int)) ∧ wr.frozen? ⟨w.heap.size + 1, 0, none⟩ = false ∧ wr.frozen? ⟨w.heap.size + 1, 1, none⟩ = false :=
  ⟨(cellsOf h.a).1, (cellsOf h.a).2, (setCells h.r).1, (setCells h.r).2.1, h.r.frozen 0, h.r.frozen 1⟩
end
set_option maxRecDepth 100000 in
set_option maxHeartbeats 1000000 in
theorem after_any (w : World) (N : Nt) (A : Option Addr) (c g q a : Nat) (hl : LsAt w N A c g q) (hN : NtAt w w.heap.size A N.l) (hv : vld N = true) (hd : dcmp N = true) (hT : Tab w) :
    Calls Tryd.prog 38 #[.pointer (some ⟨g, 0, none⟩), setV a] w fun e w' => e = .returned (ptR (afterN N a)) ∧ Below w.heap.size w w' := by
  have htu := fun W (hb : Below w.heap.size w W) => turns_any W N A c g q a (hl.below hb) ((hN.below hb).more hb.size) hv hd
  have hle : ∀ (W : World) (hb : Below w.heap.size w W) (b f : Nat), Calls Tryd.prog 63 #[.pointer (some ⟨g, 0, none⟩), setV b, setV f] W fun e w' => e = .returned (.tuple #[setV (leastN N b f).set, .bool (leastN N b f).ok]) ∧ Below W.heap.size W w' := fun W hb b f => least_any W N A c g q b f (hl.below hb) ((hN.below hb).more hb.size) hv (hT.below hb)
  have haf : afterN N a = if vl (turnsN N a) = [] then ⟨0, false⟩ else leastN N (wth a (maxL (vl (turnsN N a)))) (allTo (maxL (vl (turnsN N a)))) := rfl
  obtain ⟨T, hT0⟩ : ∃ T, turnsN N a = T := ⟨_, rfl⟩
  rw [hT0] at haf
  simp only [hT0] at htu
  have hli := fun W (hb : Below w.heap.size w W) => vlist_rd W T (hT.below hb)
  have hvl := vl_length T
  obtain ⟨P, hP⟩ : ∃ P, afterN N a = P := ⟨_, rfl⟩
  rw [hP] at haf ⊢
  have hq : AfR w a ((w.alloc (.cells #[.int .u64 (lo a : Int), .int .u64 (hi a : Int)] 27)).alloc (.cells #[.int .u64 0, .int .u64 0] 27)) :=
    ⟨(setNew w a _ _ rfl).alloc _, setZero _ _ _ (by simp), ((Below.refl _ _).alloc (Nat.le_refl _) _).alloc (by simp) _⟩
  obtain ⟨xs, hxs⟩ : ∃ xs, vl T = xs := ⟨_, rfl⟩
  simp only [hxs] at hli haf hvl
  have HTU := Lib.hid htu
  have HLE := Lib.hid hle
  have HLI := Lib.hid hli
  by_cases h0 : xs = []
  · rw [if_pos h0] at haf
    subst haf
    subst h0
    clear htu hle hli hxs hT0 hvl
    go_enter Tryd.func38, Tryd.ntmps38
    obtain ⟨c1, c2, z1, z2, f1, f2⟩ := hq.cells
    go_wp2_with (first
      | (go_at_call 71; (with_reducible refine (HTU.out _ hq.bl).mono ?_); rintro e w5 ⟨rfl, hb5⟩; replace hq := hq.below hb5; obtain ⟨c1, c2, z1, z2, f1, f2⟩ := hq.cells)
      | (go_at_call 50; (with_reducible refine (HLI.out _ hq.bl).mono ?_); rintro e w6 ⟨Ax, cx, rfl, hrd, hb6⟩; replace hq := hq.below hb6; obtain ⟨c1, c2, z1, z2, f1, f2⟩ := hq.cells))
    exact ret_set2 rfl 0 rfl rfl ((hq.r.set 0 _).set 1 _) rfl rfl rfl ⟨rfl, (hq.bl.setCell (by simp) _).setCell (by simp) _⟩
  · rw [if_neg h0] at haf
    have hn1 : 1 ≤ xs.length := by
      rcases xs with _ | ⟨x, xs⟩
      · exact absurd rfl h0
      · simp
    have hmx := fun W Ax cx h => max_list W Ax cx xs hn1 (by omega) h
    have hnz : ¬ ((xs.length : Int) = 0) := by omega
    have hnz2 : xs.length ≠ 0 := by omega
    obtain ⟨m, hm⟩ : ∃ m, maxL xs = m := ⟨_, rfl⟩
    simp only [hm] at hmx haf
    have hle2 := fun W hb => hle W hb (wth a m) (allTo m)
    rw [← haf] at hle2
    have HMX := Lib.hid hmx
    have HL2 := Lib.hid hle2
    have hwi := fun W => with_any W a m
    have hal := fun W => all_any W m
    obtain ⟨U, hU⟩ : ∃ U, wth a m = U := ⟨_, rfl⟩
    obtain ⟨V, hV⟩ : ∃ V, allTo m = V := ⟨_, rfl⟩
    simp only [hU] at hwi HL2
    simp only [hV] at hal HL2
    have HWI := Lib.hid hwi
    have HAL := Lib.hid hal
    clear htu hle hli hxs hT0 hvl hmx hle2 hm haf hU hV hwi hal h0
    go_enter Tryd.func38, Tryd.ntmps38
    obtain ⟨c1, c2, z1, z2, f1, f2⟩ := hq.cells
    go_wp2_with (first
      | (go_at_call 71; (with_reducible refine (HTU.out _ hq.bl).mono ?_); rintro e w5 ⟨rfl, hb5⟩; replace hq := hq.below hb5; obtain ⟨c1, c2, z1, z2, f1, f2⟩ := hq.cells)
      | (go_at_call 50; (with_reducible refine (HLI.out _ hq.bl).mono ?_); rintro e w6 ⟨Ax, cx, rfl, hrd, hb6⟩; replace hq := hq.below hb6; obtain ⟨c1, c2, z1, z2, f1, f2⟩ := hq.cells; have HRD := Lib.hid hrd; clear hrd)
      | (go_at_call 72; (with_reducible refine (HMX.out _ Ax cx HRD.out).mono ?_); rintro e w7 ⟨rfl, rfl⟩)
      | (go_at_call 56; (with_reducible refine (HWI.out _).mono ?_); rintro e w8 ⟨rfl, hb8⟩; replace hq := hq.below hb8; obtain ⟨c1, c2, z1, z2, f1, f2⟩ := hq.cells)
      | (go_at_call 53; (with_reducible refine (HAL.out _).mono ?_); rintro e w9 ⟨rfl, hb9⟩; replace hq := hq.below hb9; obtain ⟨c1, c2, z1, z2, f1, f2⟩ := hq.cells)
      | (go_at_call 63; (with_reducible refine (HL2.out _ hq.bl).mono ?_); rintro e w10 ⟨rfl, hb10⟩; replace hq := hq.below hb10; obtain ⟨c1, c2, z1, z2, f1, f2⟩ := hq.cells))
    exact ret_set2 rfl P.set rfl rfl (setPut hq.r _) rfl rfl rfl ⟨rfl, (hq.bl.setCell (by simp) _).setCell (by simp) _⟩
end Go.Proofs.YtemgfhdgpkmmaaaDoor
