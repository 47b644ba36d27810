import Derived.Test.YtmhllppjcilllaaGreatDoorWc
import Derived.Test.YtmhllppjcilllaaGreatDoorEr
import Derived.Test.YtmhllppjcilllaaGreatDoorHq
import Derived.Test.YtmhllppjcilllaaGreatDoorSw
set_option linter.unusedSimpArgs false
set_option linter.unusedVariables false
set_option maxRecDepth 100000
set_option maxHeartbeats 8000000
open Go Go.RowKit Cs
namespace Go.Proofs.YtmhllppjcilllaaGreatDoor
structure NbAt (w : World) (N : Nt) (A : Option Addr) (c : Nat) (W : World) : Prop where
 rb : W.rowIs w.heap.size 24 2 (arrF #[.int .i64 N.n, .slice A N.l.length c])
 nt : NtAt W w.heap.size A N.l
 bl : Below w.heap.size w W
section
variable {w W W' : World} {N : Nt} {A : Option Addr} {c : Nat}
theorem NbAt.new (hN : NtAt w w.heap.size A N.l) : NbAt w N A c (w.alloc (.cells #[.int .i64 N.n, .slice A N.l.length c] 24)) :=
 ⟨arrNew w _ _ _ _ rfl rfl, hN.below ((zqr _ _).alloc (zqn _) _), (zqr _ _).alloc (zqn _) _⟩
theorem NbAt.below (h : NbAt w N A c W) (hb : Below W.heap.size W W') : NbAt w N A c W' :=
 ⟨rowBelow h.rb hb, h.nt.below (hb.mono h.bl.size), zqx h.bl hb h.bl.size⟩
theorem NbAt.cells (h : NbAt w N A c W) : W.cell? ⟨w.heap.size, 0, none⟩ = some (.int .i64 N.n) ∧ W.cell? ⟨w.heap.size, 1, none⟩ = some (.slice A N.l.length c) := ⟨h.rb.cell (i := 0) (by decide), h.rb.cell (i := 1) (by decide)⟩
end
theorem light100 (w : World) (N : Nt) (A : Option Addr) (c : Nat) (hlen : N.l.length ≤ 140737488355328) (hN : NtAt w w.heap.size A N.l) :
  Calls Tryz.prog 43 #[ntV N A c, .int .i64 100] w fun e w' => e = .returned (.bool (lightB N 100)) ∧ Below w.heap.size w w' := light_any w N A c 100 hlen hN (by decide)
theorem counts_no (w : World) (hT : Tab w) (N : Nt) (A : Option Addr) (c : Nat) (hlen : N.l.length ≤ 140737488355328) (hN : NtAt w w.heap.size A N.l) (hno : lightB N 100 = false ∨ 20 < N.n) :
  Calls Tryz.prog 11 #[ntV N A c] w fun e w' => e = .returned (.bool true) ∧ Below w.heap.size w w' := by
 have q0 := NbAt.new (c := c) hN;obtain ⟨s1, s2⟩ := q0.cells;have hli : ∀ W, NbAt w N A c W → _ := fun W h => light100 W N A c hlen (h.nt.more h.bl.size);have HLI := zqh hli;have HT := zqh hT;have Q0 := zqh q0;clear hli hT q0;by_cases hl : lightB N 100 = true
 ·have hn : 20 < N.n := by rcases hno with h | h; (· rw [hl] at h; cases h); exact h
  have hn2 : decide (20 < N.n) = true := decide_eq_true hn;rw [hl] at HLI;clear hno hl
  go_enter Tryz.func11, Tryz.ntmps11
  go_wp2_with (first
   | (go_at_call 43; (with_reducible refine (HLI.out _ Q0.out).mono ?_); rintro e w1 ⟨rfl, hb1⟩; have Q1 := zqh (Q0.out.below hb1); clear hb1 s1 s2; obtain ⟨s1, s2⟩ := Q1.out.cells)
   | (go_at_call 15; (with_reducible refine (works_any _ (HT.out.below Q1.out.bl)).mono ?_); rintro e w2 ⟨rfl, hb2⟩; have Q2 := zqh (Q1.out.below hb2)))
  all_goals
   go_ret
   exact ⟨rfl, Q2.out.bl⟩
 ·have hl' : lightB N 100 = false := by simpa using hl
  rw [hl'] at HLI;clear hno hl hl'
  go_enter Tryz.func11, Tryz.ntmps11
  go_wp2_with (first
   | (go_at_call 43; (with_reducible refine (HLI.out _ Q0.out).mono ?_); rintro e w1 ⟨rfl, hb1⟩; have Q1 := zqh (Q0.out.below hb1); clear hb1 s1 s2; obtain ⟨s1, s2⟩ := Q1.out.cells)
   | (go_at_call 15; (with_reducible refine (works_any _ (HT.out.below Q1.out.bl)).mono ?_); rintro e w2 ⟨rfl, hb2⟩; have Q2 := zqh (Q1.out.below hb2)))
  all_goals
   go_ret
   exact ⟨rfl, Q2.out.bl⟩
abbrev OnE (w : World) (N : Nt) (A : Option Addr) (c : Nat) (E : Int) (W : World) (e : Ending) (w' : World) : Prop := ∃ Al Ah ll lh cl ch o, e = .returned (.tuple #[wtsV Al Ah ll lh cl ch, .int .i64 o]) ∧ CkE w' N A c cl ch ll lh Al Ah E ∧ Below W.heap.size W w'
structure WeAt (w : World) (N : Nt) (A : Option Addr) (c b3 ll lh cl ch : Nat) (Al Ah : Option Addr) (E : Int) (W : World) : Prop where
 nb : NbAt w N A c W
 r3 : W.rowIs b3 39 2 (arrF #[.slice Al ll cl, .slice Ah lh ch])
 ck : CkE W N A c cl ch ll lh Al Ah E
section
variable {w W W' : World} {N : Nt} {A : Option Addr} {c b3 ll lh cl ch : Nat} {Al Ah : Option Addr} {E : Int}
theorem WeAt.below (h : WeAt w N A c b3 ll lh cl ch Al Ah E W) (hb : Below W.heap.size W W') : WeAt w N A c b3 ll lh cl ch Al Ah E W' :=
 ⟨h.nb.below hb, rowBelow h.r3 hb, fun V hV => h.ck V (zqx hb hV hb.size)⟩
theorem WeAt.cells (h : WeAt w N A c b3 ll lh cl ch Al Ah E W) : W.cell? ⟨w.heap.size, 0, none⟩ = some (.int .i64 N.n) ∧ W.cell? ⟨w.heap.size, 1, none⟩ = some (.slice A N.l.length c) ∧ W.cell? ⟨b3, 0, none⟩ = some (.slice Al ll cl) ∧ W.cell? ⟨b3, 1, none⟩ = some (.slice Ah lh ch) :=
 ⟨h.nb.cells.1, h.nb.cells.2, h.r3.cell (i := 0) (by decide), h.r3.cell (i := 1) (by decide)⟩
end
theorem counts_err (w : World) (hT : Tab w) (N : Nt) (A : Option Addr) (c : Nat) (hlen : N.l.length ≤ 140737488355328) (hN : NtAt w w.heap.size A N.l) (hl : lightB N 100 = true) (h20 : ¬ 20 < N.n) (hE : cchk N ≠ 0)
  (hon : ∀ W, NbAt w N A c W → Calls Tryz.prog 39 #[.int .i64 N.n] W (OnE w N A c (cchk N) W)) :
  Calls Tryz.prog 11 #[ntV N A c] w fun e w' => e = .returned (.bool true) ∧ Below w.heap.size w w' := by
 have q0 := NbAt.new (c := c) hN;obtain ⟨s1, s2⟩ := q0.cells;have hli : ∀ W, NbAt w N A c W → _ := fun W h => light100 W N A c hlen (h.nt.more h.bl.size);rw [hl] at hli;have hco : ∀ W, NbAt w N A c W → _ := fun W h => count_any W N A c hlen (h.nt.more h.bl.size) (hT.below h.bl);have hbl : ∀ W, NbAt w N A c W → _ := fun W h => byLit_no W N A c hlen (h.nt.more h.bl.size) (hT.below h.bl) hE;have hnc : ∀ W, NbAt w N A c W → _ := fun W h => nodeCheck_any W N A c hlen (h.nt.more h.bl.size)
 have hne : (vld N = false ∧ cchk N = 1) ∨ (vld N = true ∧ cchk N ≠ 1) := by
  unfold cchk;cases vld N
  ·exact Or.inl ⟨rfl, rfl⟩
  ·refine Or.inr ⟨rfl, ?_⟩;simp;split
   ·split <;> decide
   ·decide
 have hch : chk N = if vld N = true then 0 else 1 := by unfold chk; cases vld N <;> rfl
 obtain ⟨E, hEE⟩ : ∃ E, cchk N = E := ⟨_, rfl⟩;rw [hEE] at hE hne hon hco hbl;have hn2 : decide (20 < N.n) = false := decide_eq_false h20;have e0 : (E == 0) = false := beq_eq_false_iff_ne.2 hE;have e1 : (E != 0) = true := bne_iff_ne.2 hE;have HLI := zqh hli;have HCO := zqh hco;have HBL := zqh hbl;have HON := zqh hon;have HT := zqh hT;have Q0 := zqh q0;have HNE := zqh hne;have HE := zqh hE;obtain ⟨K, hK⟩ : ∃ K, chk N = K := ⟨_, rfl⟩;rw [hK] at hch hnc;have HNC := zqh hnc;have HCH := zqh hch;obtain ⟨Cn, hCn⟩ : ∃ C, cntN N = C := ⟨_, rfl⟩;rw [hCn] at HCO;clear hli hT q0 hco hbl hnc hne hon hE hl h20 hEE hlen hN hK hch hCn
 go_enter Tryz.func11, Tryz.ntmps11
 go_upto_region 3 with (go_at_call 43; (with_reducible refine (HLI.out _ Q0.out).mono ?_); rintro e w1 ⟨rfl, hb1⟩; have Q1 := zqh (Q0.out.below hb1); clear hb1 s1 s2; obtain ⟨s1, s2⟩ := Q1.out.cells)
 go_cut [3] from 25 to 30 (fun p wx => ∃ b3 Al Ah ll lh cl ch, p = .pointer (some ⟨b3, 0, none⟩) ∧ WeAt w N A c b3 ll lh cl ch Al Ah E wx)
 case first =>
  go_wp2_with (go_at_call 39; (with_reducible refine (HON.out _ Q1.out).mono ?_); rintro e w2 ⟨Al, Ah, ll, lh, cl, ch, o, rfl, hck, hb2⟩)
  all_goals
   go_meet
   have hb3 := (Below.refl w2.heap.size w2).alloc (zqn _) (.cells #[.slice Al ll cl, .slice Ah lh ch] 39);exact ⟨w2.heap.size, Al, Ah, ll, lh, cl, ch, rfl, (Q1.out.below hb2).below hb3, arrNew w2 _ _ _ _ rfl rfl, fun W hW => hck W (zqx hb3 hW hb3.size)⟩
 case rest =>
 obtain ⟨b3, Al, Ah, ll, lh, cl, ch, rfl, hq⟩ := hcut;obtain ⟨t1, t2, t3, t4⟩ := hq.cells;have X0 := zqh hq;clear hq s1 s2 Q0 Q1 HLI HON
 go_upto_region 8 with (first
  | (go_at_call 16; (with_reducible refine (total_err _ N A c cl ch ll lh Al Ah E HE.out X0.out.ck).mono ?_); rintro e w3 ⟨rfl, hb3⟩; have X1 := zqh ((X0.out.below hb3).below ((zqr _ _).alloc (zqn _) (.cells #[.string (natB 0), .string (natB 0)] 33))); clear t1 t2 t3 t4 hb3 X0; obtain ⟨t1, t2, t3, t4⟩ := X1.out.cells)
  | (go_at_call 21; (with_reducible refine (bylit_err _ N A c cl ch ll lh Al Ah E HE.out X1.out.ck).mono ?_); rintro e w4 ⟨rfl, hb4⟩; have X2 := zqh (X1.out.below hb4); clear t1 t2 t3 t4 hb4 X1; obtain ⟨t1, t2, t3, t4⟩ := X2.out.cells)
  | (go_at_call 44; (with_reducible refine (HCO.out _ X2.out.nb).mono ?_); rintro e w5 ⟨rfl, hb5⟩; have X3 := zqh ((X2.out.below hb5).below ((zqr _ _).alloc (zqn _) (.cells #[.string (natB Cn)] 31))); clear t1 t2 t3 t4 hb5 X2; obtain ⟨t1, t2, t3, t4⟩ := X3.out.cells)
  | (go_at_call 45; (with_reducible refine (HBL.out _ X3.out.nb).mono ?_); rintro e w6 ⟨rfl, hb6⟩; have X4 := zqh (X3.out.below hb6); clear t1 t2 t3 t4 hb6 X3; obtain ⟨t1, t2, t3, t4⟩ := X4.out.cells))
 rcases HNE.out with ⟨hv, rfl⟩ | ⟨hv, h1⟩
 ·have hk := HCH.out;rw [hv] at hk;simp only [Bool.false_eq_true, if_false] at hk;subst hk;clear hv
  go_wp2_with (first
   | (go_at_call 46; (with_reducible refine (HNC.out _ X4.out.nb).mono ?_); rintro e w7 ⟨rfl, hb7⟩; have X5 := zqh (X4.out.below hb7); clear t1 t2 t3 t4 hb7 X4)
   | (go_at_call 15; (with_reducible refine (works_any _ (HT.out.below X5.out.nb.bl)).mono ?_); rintro e w8 ⟨rfl, hb8⟩; have X6 := zqh (X5.out.below hb8)))
  all_goals
   go_ret
   exact ⟨rfl, X6.out.nb.bl⟩
 ·have hk := HCH.out;rw [hv] at hk;simp only [if_true] at hk;subst hk;clear hv;have e2 : (E == E) = true := beq_self_eq_true E
  go_wp2_with (first
   | (go_at_call 46; (with_reducible refine (HNC.out _ X4.out.nb).mono ?_); rintro e w7 ⟨rfl, hb7⟩; have X5 := zqh (X4.out.below hb7); clear t1 t2 t3 t4 hb7 X4)
   | (go_at_call 15; (with_reducible refine (works_any _ (HT.out.below X5.out.nb.bl)).mono ?_); rintro e w8 ⟨rfl, hb8⟩; have X6 := zqh (X5.out.below hb8)))
  all_goals
   go_ret
   exact ⟨rfl, X6.out.nb.bl⟩
structure OkS (w : World) (N : Nt) (A : Option Addr) (c b3 g1 g2 M : Nat) (ones : List Pr) (W : World) : Prop where
 nb : NbAt w N A c W
 r3 : W.rowIs b3 39 2 (arrF #[.slice (some ⟨g1, 0, none⟩) M M, .slice (some ⟨g2, 0, none⟩) M M])
 x1 : W.rowIs g1 33 (M * 2) (prsF ones)
 x2 : W.rowIs g2 33 (M * 2) (prsF ones)
section
variable {w W W' : World} {N : Nt} {A : Option Addr} {c b3 g1 g2 M : Nat} {ones : List Pr}
theorem OkS.below (h : OkS w N A c b3 g1 g2 M ones W) (hb : Below W.heap.size W W') : OkS w N A c b3 g1 g2 M ones W' :=
 ⟨h.nb.below hb, rowBelow h.r3 hb, rowBelow h.x1 hb, rowBelow h.x2 hb⟩
theorem OkS.cells (h : OkS w N A c b3 g1 g2 M ones W) : W.cell? ⟨w.heap.size, 0, none⟩ = some (.int .i64 N.n) ∧ W.cell? ⟨w.heap.size, 1, none⟩ = some (.slice A N.l.length c) ∧ W.cell? ⟨b3, 0, none⟩ = some (.slice (some ⟨g1, 0, none⟩) M M) ∧ W.cell? ⟨b3, 1, none⟩ = some (.slice (some ⟨g2, 0, none⟩) M M) :=
 ⟨h.nb.cells.1, h.nb.cells.2, h.r3.cell (i := 0) (by decide), h.r3.cell (i := 1) (by decide)⟩
end
theorem prsCell (L : List Pr) {W : World} {g n : Nat} {t : TypeId} (h : W.rowIs g t n (prsF L)) (k : Nat) (hk : k * 2 + 1 < n) : W.cell? ⟨g, k * 2, none⟩ = some (.string (natB (L.getD k (0, 0)).1)) ∧ W.cell? ⟨g, k * 2 + 1, none⟩ = some (.string (natB (L.getD k (0, 0)).2)) :=
 ⟨(h.cell (i := k * 2) (by omega)).trans (by rw [prsF_0]), (h.cell (i := k * 2 + 1) hk).trans (by rw [prsF_1])⟩
theorem counts_ok (w : World) (hT : Tab w) (N : Nt) (A : Option Addr) (c : Nat) (hlen : N.l.length ≤ 140737488355328) (hN : NtAt w w.heap.size A N.l) (hl : lightB N 100 = true) (h20 : ¬ 20 < N.n) (M Sn Sd C : Nat) (hM : M ≤ 1000) (LP HP ones : List Pr) (LC HC : List Nat)
  (hon : ∀ W, Calls Tryz.prog 39 #[.int .i64 N.n] W fun e w' => ∃ g1 g2, e = .returned (.tuple #[wtsV (some ⟨g1, 0, none⟩) (some ⟨g2, 0, none⟩) M M M M, .int .i64 0]) ∧ w'.rowIs g1 33 (M * 2) (prsF ones) ∧ w'.rowIs g2 33 (M * 2) (prsF ones) ∧ Below W.heap.size W w')
  (hto : ∀ W b3 g1 g2, OkS w N A c b3 g1 g2 M ones W → Calls Tryz.prog 16 #[ntV N A c, wtsV (some ⟨g1, 0, none⟩) (some ⟨g2, 0, none⟩) M M M M] W fun e w' => e = .returned (.tuple #[ratV Sn Sd, .int .i64 0]) ∧ Below W.heap.size W w')
  (hby : ∀ W b3 g1 g2, OkS w N A c b3 g1 g2 M ones W → Calls Tryz.prog 21 #[ntV N A c, wtsV (some ⟨g1, 0, none⟩) (some ⟨g2, 0, none⟩) M M M M] W fun e w' => ∃ gl gh, e = .returned (.tuple #[.slice (some ⟨gl, 0, none⟩) M M, .slice (some ⟨gh, 0, none⟩) M M, .int .i64 0]) ∧ w'.rowIs gl 33 (M * 2) (prsF LP) ∧ w'.rowIs gh 33 (M * 2) (prsF HP) ∧ Below W.heap.size W w')
  (hco : ∀ W, NbAt w N A c W → Calls Tryz.prog 44 #[ntV N A c] W fun e w' => e = .returned (.tuple #[natV C, .int .i64 0]) ∧ Below W.heap.size W w')
  (hcb : ∀ W, NbAt w N A c W → Calls Tryz.prog 45 #[ntV N A c] W fun e w' => ∃ cl ch, e = .returned (.tuple #[.slice (some ⟨cl, 0, none⟩) M M, .slice (some ⟨ch, 0, none⟩) M M, .int .i64 0]) ∧ w'.rowIs cl 31 M (natsF LC) ∧ w'.rowIs ch 31 M (natsF HC) ∧ Below W.heap.size W w')
  (hnc : ∀ W, NbAt w N A c W → Calls Tryz.prog 46 #[ntV N A c] W fun e w' => e = .returned (.int .i64 0) ∧ Below W.heap.size W w')
  (hqt : ∀ W, Calls Tryz.prog 28 #[ratV Sn Sd] W fun e w' => e = .returned (.string (dec C)) ∧ Below W.heap.size W w')
  (hnt : ∀ W, Calls Tryz.prog 47 #[natV C] W fun e w' => e = .returned (.string (dec C)) ∧ Below W.heap.size W w')
  (hlt : ∀ k, k < M → ∀ W, Calls Tryz.prog 28 #[ratV (LP.getD k (0, 0)).1 (LP.getD k (0, 0)).2] W fun e w' => e = .returned (.string (dec (LC.getD k 0))) ∧ Below W.heap.size W w')
  (hht : ∀ k, k < M → ∀ W, Calls Tryz.prog 28 #[ratV (HP.getD k (0, 0)).1 (HP.getD k (0, 0)).2] W fun e w' => e = .returned (.string (dec (HC.getD k 0))) ∧ Below W.heap.size W w')
  (hlc : ∀ k, k < M → ∀ W, Calls Tryz.prog 47 #[natV (LC.getD k 0)] W fun e w' => e = .returned (.string (dec (LC.getD k 0))) ∧ Below W.heap.size W w')
  (hhc : ∀ k, k < M → ∀ W, Calls Tryz.prog 47 #[natV (HC.getD k 0)] W fun e w' => e = .returned (.string (dec (HC.getD k 0))) ∧ Below W.heap.size W w') :
  Calls Tryz.prog 11 #[ntV N A c] w fun e w' => e = .returned (.bool true) ∧ Below w.heap.size w w' := by
 have q0 := NbAt.new (c := c) hN;obtain ⟨s1, s2⟩ := q0.cells;have hli : ∀ W, NbAt w N A c W → _ := fun W h => light100 W N A c hlen (h.nt.more h.bl.size);rw [hl] at hli;have hn2 : decide (20 < N.n) = false := decide_eq_false h20;have HLI := zqh hli;have HCO := zqh hco
 have HBY := zqh hby
 have HTO := zqh hto;have HCB := zqh hcb;have HNC := zqh hnc;have HQT := zqh hqt;have HNT := zqh hnt;have HLT := zqh hlt;have HHT := zqh hht;have HLC := zqh hlc;have HHC := zqh hhc;have HON := zqh hon;have HT := zqh hT;have Q0 := zqh q0;clear hli hT q0 hco hby hto hcb hnc hqt hnt hlt hht hlc hhc hon hl h20 hlen hN
 go_enter Tryz.func11, Tryz.ntmps11
 go_upto_region 3 with (go_at_call 43; (with_reducible refine (HLI.out _ Q0.out).mono ?_); rintro e w1 ⟨rfl, hb1⟩; have Q1 := zqh (Q0.out.below hb1); clear hb1 s1 s2; obtain ⟨s1, s2⟩ := Q1.out.cells)
 go_cut [3, 4] from 25 to 30 (fun p q wx => ∃ b3 g1 g2, p = .pointer (some ⟨b3, 0, none⟩) ∧ q = .int .i64 0 ∧ OkS w N A c b3 g1 g2 M ones wx)
 case first =>
  go_wp2_with (go_at_call 39; (with_reducible refine (HON.out _).mono ?_); rintro e w2 ⟨g1, g2, rfl, x1, x2, hb2⟩)
  all_goals
   go_meet
   have hb3 := (Below.refl w2.heap.size w2).alloc (zqn _) (.cells #[.slice (some ⟨g1, 0, none⟩) M M, .slice (some ⟨g2, 0, none⟩) M M] 39);exact ⟨w2.heap.size, g1, g2, rfl, rfl, (Q1.out.below hb2).below hb3, arrNew w2 _ _ _ _ rfl rfl, rowBelow x1 hb3, rowBelow x2 hb3⟩
 case rest =>
 obtain ⟨b3, g1, g2, rfl, rfl, hq⟩ := hcut;obtain ⟨t1, t2, t3, t4⟩ := hq.cells;have X0 := zqh hq;clear hq s1 s2 Q0 Q1 HLI HON
 go_upto_region 4 with (fail)
 go_cut [5, 6] from 31 to 36 (fun p q wx => ∃ b5, p = .pointer (some ⟨b5, 0, none⟩) ∧ q = .int .i64 0 ∧ wx.rowIs b5 33 2 (ratF Sn Sd) ∧ OkS w N A c b3 g1 g2 M ones wx)
 case first =>
  go_wp2_with (go_at_call 16; (with_reducible refine (HTO.out _ b3 g1 g2 X0.out).mono ?_); rintro e w3 ⟨rfl, hb3⟩)
  all_goals
   go_meet
   exact ⟨w3.heap.size, rfl, rfl, (arrNew w3 _ _ _ _ rfl rfl).congr (ratF_arr Sn Sd), (X0.out.below hb3).below ((zqr _ _).alloc (zqn _) _)⟩
 case rest =>
 obtain ⟨b5, rfl, rfl, r5, hq⟩ := hcut;have R5 := zqh r5;clear t1 t2 t3 t4 X0 r5;obtain ⟨t1, t2, t3, t4⟩ := hq.cells;have X1 := zqh hq;clear hq
 go_upto_region 5 with (fail)
 go_cut [7, 8, 9] from 37 to 43 (fun p q r wx => ∃ gl gh, p = .slice (some ⟨gl, 0, none⟩) M M ∧ q = .slice (some ⟨gh, 0, none⟩) M M ∧ r = .int .i64 0 ∧ wx.rowIs b5 33 2 (ratF Sn Sd) ∧ wx.rowIs gl 33 (M * 2) (prsF LP) ∧ wx.rowIs gh 33 (M * 2) (prsF HP) ∧ OkS w N A c b3 g1 g2 M ones wx)
 case first =>
  go_wp2_with (go_at_call 21; (with_reducible refine (HBY.out _ b3 g1 g2 X1.out).mono ?_); rintro e w4 ⟨gl, gh, rfl, rl, rh, hb4⟩)
  all_goals
   go_meet
   exact ⟨gl, gh, rfl, rfl, rfl, rowBelow R5.out hb4, rl, rh, X1.out.below hb4⟩
 case rest =>
 obtain ⟨gl, gh, rfl, rfl, rfl, r5, rl, rh, hq⟩ := hcut;clear t1 t2 t3 t4 X1 R5;have R5 := zqh r5;have RL := zqh rl;have RH := zqh rh;obtain ⟨t1, t2, t3, t4⟩ := hq.cells;have X2 := zqh hq;clear hq r5 rl rh
 go_upto_region 6 with (fail)
 go_cut [10, 11] from 44 to 48 (fun p q wx => ∃ b10, p = .pointer (some ⟨b10, 0, none⟩) ∧ q = .int .i64 0 ∧ wx.rowIs b10 31 1 (arrF #[.string (natB C)]) ∧ wx.rowIs b5 33 2 (ratF Sn Sd) ∧ wx.rowIs gl 33 (M * 2) (prsF LP) ∧ wx.rowIs gh 33 (M * 2) (prsF HP) ∧ OkS w N A c b3 g1 g2 M ones wx)
 case first =>
  go_wp2_with (go_at_call 44; (with_reducible refine (HCO.out _ X2.out.nb).mono ?_); rintro e w5 ⟨rfl, hb5⟩)
  all_goals
   go_meet
   exact ⟨w5.heap.size, rfl, rfl, arrNew w5 _ _ _ _ rfl rfl, (rowBelow R5.out hb5).alloc _, (rowBelow RL.out hb5).alloc _, (rowBelow RH.out hb5).alloc _, (X2.out.below hb5).below ((zqr _ _).alloc (zqn _) _)⟩
 case rest =>
 obtain ⟨b10, rfl, rfl, r10, r5, rl, rh, hq⟩ := hcut;clear t1 t2 t3 t4 X2 R5 RL RH;have R10 := zqh r10;have R5 := zqh r5;have RL := zqh rl;have RH := zqh rh;obtain ⟨t1, t2, t3, t4⟩ := hq.cells;have X3 := zqh hq;clear hq r5 rl rh r10
 go_upto_region 7 with (fail)
 go_cut [12, 13, 14] from 49 to 54 (fun p q r wx => ∃ cl ch, p = .slice (some ⟨cl, 0, none⟩) M M ∧ q = .slice (some ⟨ch, 0, none⟩) M M ∧ r = .int .i64 0 ∧ wx.rowIs cl 31 M (natsF LC) ∧ wx.rowIs ch 31 M (natsF HC) ∧ wx.rowIs b10 31 1 (arrF #[.string (natB C)]) ∧ wx.rowIs b5 33 2 (ratF Sn Sd) ∧ wx.rowIs gl 33 (M * 2) (prsF LP) ∧ wx.rowIs gh 33 (M * 2) (prsF HP) ∧ NbAt w N A c wx)
 case first =>
  go_wp2_with (go_at_call 45; (with_reducible refine (HCB.out _ X3.out.nb).mono ?_); rintro e w6 ⟨cl, ch, rfl, rcl, rch, hb6⟩)
  all_goals
   go_meet
   exact ⟨cl, ch, rfl, rfl, rfl, rcl, rch, rowBelow R10.out hb6, rowBelow R5.out hb6, rowBelow RL.out hb6, rowBelow RH.out hb6, X3.out.nb.below hb6⟩
 case rest =>
 obtain ⟨cl, ch, rfl, rfl, rfl, rcl, rch, r10, r5, rl, rh, hq⟩ := hcut;clear t1 t2 t3 t4 X3 R5 RL RH R10;obtain ⟨t1, t2⟩ := hq.cells;have RCL := zqh rcl;have RCH := zqh rch;have R10 := zqh r10;have R5 := zqh r5;have RL := zqh rl;have RH := zqh rh;have X4 := zqh hq;clear rcl rch r10 r5 rl rh hq HTO HBY HCO HCB
 go_upto_region 12 with (go_at_call 46; (with_reducible refine (HNC.out _ X4.out).mono ?_); rintro e w7 ⟨rfl, hb7⟩; replace RCL := zqh (rowBelow RCL.out hb7); replace RCH := zqh (rowBelow RCH.out hb7); replace R10 := zqh (rowBelow R10.out hb7); replace R5 := zqh (rowBelow R5.out hb7); replace RL := zqh (rowBelow RL.out hb7); replace RH := zqh (rowBelow RH.out hb7); replace X4 := zqh (X4.out.below hb7); clear t1 t2 hb7)
 go_cut [117] from 80 to 117 (fun p wx => p = .bool false ∧ Below w7.heap.size w7 wx)
 case first =>
  obtain ⟨s1, s2⟩ := ratCells R5.out;have s3 : w7.cell? ⟨b10, 0, none⟩ = some (.string (natB C)) := R10.out.cell (i := 0) (by decide);have hg5 := R5.out.lt;have hg10 := R10.out.lt;have HS : Hid (∀ W, Below w7.heap.size w7 W → W.cell? ⟨b5, 0, none⟩ = some (.string (natB Sn)) ∧ W.cell? ⟨b5, 1, none⟩ = some (.string (natB Sd)) ∧ W.cell? ⟨b10, 0, none⟩ = some (.string (natB C))) := zqh fun W hb => ⟨(hb.cell (p := ⟨b5, 0, none⟩) hg5).trans s1, (hb.cell (p := ⟨b5, 1, none⟩) hg5).trans s2, (hb.cell (p := ⟨b10, 0, none⟩) hg10).trans s3⟩
  refine wp_region_props (n := _) (PX := [zqu (.int .i64 0),
     zqu (.bool false),
     zqu (.bool false),
     zqu (.int .i64 0),
     zqu (.bool false),
     zqu (.bool false),
     zqu (.bool false),
     zqu (.int .i64 0),
     zqu (.bool false),
     zqu (.bool false),
     zqu (.bool false),
     zqu (.agg #[.string (natB Sn), .string (natB Sd)]),
     zqu (.string (dec C)),
     zqu (.agg #[.string (natB C)]),
     zqu (.string (dec C)),
     zqu (.bool false),
     zqu (.bool false),
     zqu (.bool false),
     zqu (.slice (some ⟨gl, 0, none⟩) M M),
     zqu (.int .i64 (M : Int)),
     zqu (.slice (some ⟨cl, 0, none⟩) M M),
     zqu (.int .i64 (M : Int)),
     zqu (.bool false),
     zqu (.bool false),
     zqu (.bool false),
     zqu (.slice (some ⟨gh, 0, none⟩) M M),
     zqu (.int .i64 (M : Int)),
     zqu (.slice (some ⟨cl, 0, none⟩) M M),
     zqu (.int .i64 (M : Int)),
     zqu (.bool false),
     zqu (.bool false),
     zqu (.bool false),
     zqu (.slice (some ⟨ch, 0, none⟩) M M),
     zqu (.int .i64 (M : Int)),
     zqu (.slice (some ⟨cl, 0, none⟩) M M),
     zqu (.int .i64 (M : Int)),
     zqu (.bool false),
     zqu (.bool false)])
    (AL := []) (DP := [[], [0], [1], [2], [2, 3], [2, 4], [5], [6], [6, 7], [6, 8], [9], [10], [10, 11], [10], [10, 13], [10, 12, 14], [10, 15], [16], [17], [17, 18], [17], [17, 20], [17, 19, 21], [17, 22], [23], [24], [24, 25], [24], [24, 27], [24, 26, 28], [24, 29], [30], [31], [31, 32], [31], [31, 34], [31, 33, 35], [31, 36]]) (L1 := [0, 1, 2, 3, 4, 5, 6, 7, 8, 9, 10, 11, 12, 13, 14, 15, 16, 17, 18, 19, 20, 21, 22, 23, 24, 25, 26, 27, 28, 29, 30, 31, 32, 33, 34, 35, 36, 37]) (ex := []) (by kernel_rfl) rfl (by kernel_rfl) ?_ ?_ (fin0 ?_)
  ·refine zqg ?_ (zqg ?_ (zqg ?_ (zqg ?_ (zqg ?_ (zqg ?_ (zqg ?_ (zqg ?_ (zqg ?_ (zqg ?_ (zqg ?_ (zqg ?_ (zqg ?_ (zqg ?_ (zqg ?_ (zqg ?_ (zqg ?_ (zqg ?_ (zqg ?_ (zqg ?_ (zqg ?_ (zqg ?_ (zqg ?_ (zqg ?_ (zqg ?_ (zqg ?_ (zqg ?_ (zqg ?_ (zqg ?_ (zqg ?_ (zqg ?_ (zqg ?_ (zqg ?_ (zqg ?_ (zqg ?_ (zqg ?_ (zqg ?_ (zqg ?_ zqi)))))))))))))))))))))))))))))))))))))
   iterate 38 exact fun _ _ _ _ h _ => h
  ·refine zqg ?_ (zqg ?_ (zqg ?_ (zqg ?_ (zqg ?_ (zqg ?_ (zqg ?_ (zqg ?_ (zqg ?_ (zqg ?_ (zqg ?_ (zqg ?_ (zqg ?_ (zqg ?_ (zqg ?_ (zqg ?_ (zqg ?_ (zqg ?_ (zqg ?_ (zqg ?_ (zqg ?_ (zqg ?_ (zqg ?_ (zqg ?_ (zqg ?_ (zqg ?_ (zqg ?_ (zqg ?_ (zqg ?_ (zqg ?_ (zqg ?_ (zqg ?_ (zqg ?_ (zqg ?_ (zqg ?_ (zqg ?_ (zqg ?_ (zqg ?_ zqi)))))))))))))))))))))))))))))))))))))
   ·refine zso rfl [] ?_;intro vs W hW hd K hK;clear hd
    try simp only [putsD, Act.put, zqa, zqb, zqc, zqd, zqe, zqf] at hK ⊢
    go_simp
    exact hK.out _ _ rfl (zqr _ _) (zqv rfl)
   ·refine zso rfl [(0, some 80)] ?_;intro vs W hW hd K hK;have d0 : vs 0 = .int .i64 0 := hd 0 (by decide);clear hd
    try simp only [d0, putsD, Act.put, zqa, zqb, zqc, zqd, zqe, zqf] at hK ⊢
    go_simp
    exact hK.out _ _ rfl (zqr _ _) (zqv rfl)
   ·refine zso rfl [(1, some 81)] ?_;intro vs W hW hd K hK;have d1 : vs 1 = .bool false := hd 1 (by decide);clear hd
    try simp only [d1, putsD, Act.put, zqa, zqb, zqc, zqd, zqe, zqf] at hK ⊢
    go_simp
    exact hK.out _ _ rfl (zqr _ _) (zqv rfl)
   ·refine zso rfl [(2, some 82)] ?_;intro vs W hW hd K hK;have d2 : vs 2 = .bool false := hd 2 (by decide);clear hd
    try simp only [d2, putsD, Act.put, zqa, zqb, zqc, zqd, zqe, zqf] at hK ⊢
    go_simp
    exact hK.out _ _ rfl (zqr _ _) (zqv rfl)
   ·refine zso rfl [(2, some 82), (3, some 83)] ?_;intro vs W hW hd K hK;have d2 : vs 2 = .bool false := hd 2 (by decide);have d3 : vs 3 = .int .i64 0 := hd 3 (by decide);clear hd
    try simp only [d2, d3, putsD, Act.put, zqa, zqb, zqc, zqd, zqe, zqf] at hK ⊢
    go_simp
    exact hK.out _ _ rfl (zqr _ _) (zqv rfl)
   ·refine zso rfl [(2, some 82), (4, some 84)] ?_;intro vs W hW hd K hK;have d2 : vs 2 = .bool false := hd 2 (by decide);have d4 : vs 4 = .bool false := hd 4 (by decide);clear hd
    try simp only [d2, d4, putsD, Act.put, zqa, zqb, zqc, zqd, zqe, zqf] at hK ⊢
    go_simp
    exact hK.out _ _ rfl (zqr _ _) (zqv rfl)
   ·refine zso rfl [(5, some 85)] ?_;intro vs W hW hd K hK;have d5 : vs 5 = .bool false := hd 5 (by decide);clear hd
    try simp only [d5, putsD, Act.put, zqa, zqb, zqc, zqd, zqe, zqf] at hK ⊢
    go_simp
    exact hK.out _ _ rfl (zqr _ _) (zqv rfl)
   ·refine zso rfl [(6, some 86)] ?_;intro vs W hW hd K hK;have d6 : vs 6 = .bool false := hd 6 (by decide);clear hd
    try simp only [d6, putsD, Act.put, zqa, zqb, zqc, zqd, zqe, zqf] at hK ⊢
    go_simp
    exact hK.out _ _ rfl (zqr _ _) (zqv rfl)
   ·refine zso rfl [(6, some 86), (7, some 87)] ?_;intro vs W hW hd K hK;have d6 : vs 6 = .bool false := hd 6 (by decide);have d7 : vs 7 = .int .i64 0 := hd 7 (by decide);clear hd
    try simp only [d6, d7, putsD, Act.put, zqa, zqb, zqc, zqd, zqe, zqf] at hK ⊢
    go_simp
    exact hK.out _ _ rfl (zqr _ _) (zqv rfl)
   ·refine zso rfl [(6, some 86), (8, some 88)] ?_;intro vs W hW hd K hK;have d6 : vs 6 = .bool false := hd 6 (by decide);have d8 : vs 8 = .bool false := hd 8 (by decide);clear hd
    try simp only [d6, d8, putsD, Act.put, zqa, zqb, zqc, zqd, zqe, zqf] at hK ⊢
    go_simp
    exact hK.out _ _ rfl (zqr _ _) (zqv rfl)
   ·refine zso rfl [(9, some 89)] ?_;intro vs W hW hd K hK;have d9 : vs 9 = .bool false := hd 9 (by decide);clear hd
    try simp only [d9, putsD, Act.put, zqa, zqb, zqc, zqd, zqe, zqf] at hK ⊢
    go_simp
    exact hK.out _ _ rfl (zqr _ _) (zqv rfl)
   ·refine zso rfl [(10, some 90)] ?_;intro vs W hW hd K hK;have d10 : vs 10 = .bool false := hd 10 (by decide);clear hd
    try simp only [d10, putsD, Act.put, zqa, zqb, zqc, zqd, zqe, zqf] at hK ⊢
    obtain ⟨m1, m2, m3⟩ := HS.out W hW
    go_simp
    exact hK.out _ _ rfl (zqr _ _) (zqv rfl)
   ·refine zso rfl [(10, some 90), (11, some 91)] ?_;intro vs W hW hd K hK;have d10 : vs 10 = .bool false := hd 10 (by decide);have d11 : vs 11 = .agg #[.string (natB Sn), .string (natB Sd)] := hd 11 (by decide);clear hd
    try simp only [d10, d11, putsD, Act.put, zqa, zqb, zqc, zqd, zqe, zqf] at hK ⊢
    go_simp
    go_at_call 28
    (with_reducible first | refine (HQT.out _).mono ?_)
    rintro e w9 ⟨rfl, hb9⟩;exact hK.out _ _ (rfl) hb9 (fun h => absurd h (by decide))
   ·refine zso rfl [(10, some 90)] ?_;intro vs W hW hd K hK;have d10 : vs 10 = .bool false := hd 10 (by decide);clear hd
    try simp only [d10, putsD, Act.put, zqa, zqb, zqc, zqd, zqe, zqf] at hK ⊢
    obtain ⟨m1, m2, m3⟩ := HS.out W hW
    go_simp
    exact hK.out _ _ rfl (zqr _ _) (zqv rfl)
   ·refine zso rfl [(10, some 90), (13, some 93)] ?_;intro vs W hW hd K hK;have d10 : vs 10 = .bool false := hd 10 (by decide);have d13 : vs 13 = .agg #[.string (natB C)] := hd 13 (by decide);clear hd
    try simp only [d10, d13, putsD, Act.put, zqa, zqb, zqc, zqd, zqe, zqf] at hK ⊢
    go_simp
    go_at_call 47
    (with_reducible first | refine (HNT.out _).mono ?_)
    rintro e w9 ⟨rfl, hb9⟩;exact hK.out _ _ (rfl) hb9 (fun h => absurd h (by decide))
   ·refine zso rfl [(10, some 90), (12, some 92), (14, some 94)] ?_;intro vs W hW hd K hK;have d10 : vs 10 = .bool false := hd 10 (by decide);have d12 : vs 12 = .string (dec C) := hd 12 (by decide);have d14 : vs 14 = .string (dec C) := hd 14 (by decide);clear hd
    try simp only [d10, d12, d14, putsD, Act.put, zqa, zqb, zqc, zqd, zqe, zqf] at hK ⊢
    go_simp
    exact hK.out _ _ rfl (zqr _ _) (zqv rfl)
   ·refine zso rfl [(10, some 90), (15, some 95)] ?_;intro vs W hW hd K hK;have d10 : vs 10 = .bool false := hd 10 (by decide);have d15 : vs 15 = .bool false := hd 15 (by decide);clear hd
    try simp only [d10, d15, putsD, Act.put, zqa, zqb, zqc, zqd, zqe, zqf] at hK ⊢
    go_simp
    exact hK.out _ _ rfl (zqr _ _) (zqv rfl)
   ·refine zso rfl [(16, some 96)] ?_;intro vs W hW hd K hK;have d16 : vs 16 = .bool false := hd 16 (by decide);clear hd
    try simp only [d16, putsD, Act.put, zqa, zqb, zqc, zqd, zqe, zqf] at hK ⊢
    go_simp
    exact hK.out _ _ rfl (zqr _ _) (zqv rfl)
   ·refine zso rfl [(17, some 97)] ?_;intro vs W hW hd K hK;have d17 : vs 17 = .bool false := hd 17 (by decide);clear hd
    try simp only [d17, putsD, Act.put, zqa, zqb, zqc, zqd, zqe, zqf] at hK ⊢
    go_simp
    exact hK.out _ _ rfl (zqr _ _) (zqv rfl)
   ·refine zso rfl [(17, some 97), (18, some 98)] ?_;intro vs W hW hd K hK;have d17 : vs 17 = .bool false := hd 17 (by decide);have d18 : vs 18 = .slice (some ⟨gl, 0, none⟩) M M := hd 18 (by decide);clear hd
    try simp only [d17, d18, putsD, Act.put, zqa, zqb, zqc, zqd, zqe, zqf] at hK ⊢
    go_simp
    exact hK.out _ _ rfl (zqr _ _) (zqv rfl)
   ·refine zso rfl [(17, some 97)] ?_;intro vs W hW hd K hK;have d17 : vs 17 = .bool false := hd 17 (by decide);clear hd
    try simp only [d17, putsD, Act.put, zqa, zqb, zqc, zqd, zqe, zqf] at hK ⊢
    go_simp
    exact hK.out _ _ rfl (zqr _ _) (zqv rfl)
   ·refine zso rfl [(17, some 97), (20, some 100)] ?_;intro vs W hW hd K hK;have d17 : vs 17 = .bool false := hd 17 (by decide);have d20 : vs 20 = .slice (some ⟨cl, 0, none⟩) M M := hd 20 (by decide);clear hd
    try simp only [d17, d20, putsD, Act.put, zqa, zqb, zqc, zqd, zqe, zqf] at hK ⊢
    go_simp
    exact hK.out _ _ rfl (zqr _ _) (zqv rfl)
   ·refine zso rfl [(17, some 97), (19, some 99), (21, some 101)] ?_;intro vs W hW hd K hK;have d17 : vs 17 = .bool false := hd 17 (by decide);have d19 : vs 19 = .int .i64 (M : Int) := hd 19 (by decide);have d21 : vs 21 = .int .i64 (M : Int) := hd 21 (by decide);clear hd
    try simp only [d17, d19, d21, putsD, Act.put, zqa, zqb, zqc, zqd, zqe, zqf] at hK ⊢
    go_simp
    exact hK.out _ _ rfl (zqr _ _) (zqv rfl)
   ·refine zso rfl [(17, some 97), (22, some 102)] ?_;intro vs W hW hd K hK;have d17 : vs 17 = .bool false := hd 17 (by decide);have d22 : vs 22 = .bool false := hd 22 (by decide);clear hd
    try simp only [d17, d22, putsD, Act.put, zqa, zqb, zqc, zqd, zqe, zqf] at hK ⊢
    go_simp
    exact hK.out _ _ rfl (zqr _ _) (zqv rfl)
   ·refine zso rfl [(23, some 103)] ?_;intro vs W hW hd K hK;have d23 : vs 23 = .bool false := hd 23 (by decide);clear hd
    try simp only [d23, putsD, Act.put, zqa, zqb, zqc, zqd, zqe, zqf] at hK ⊢
    go_simp
    exact hK.out _ _ rfl (zqr _ _) (zqv rfl)
   ·refine zso rfl [(24, some 104)] ?_;intro vs W hW hd K hK;have d24 : vs 24 = .bool false := hd 24 (by decide);clear hd
    try simp only [d24, putsD, Act.put, zqa, zqb, zqc, zqd, zqe, zqf] at hK ⊢
    go_simp
    exact hK.out _ _ rfl (zqr _ _) (zqv rfl)
   ·refine zso rfl [(24, some 104), (25, some 105)] ?_;intro vs W hW hd K hK;have d24 : vs 24 = .bool false := hd 24 (by decide);have d25 : vs 25 = .slice (some ⟨gh, 0, none⟩) M M := hd 25 (by decide);clear hd
    try simp only [d24, d25, putsD, Act.put, zqa, zqb, zqc, zqd, zqe, zqf] at hK ⊢
    go_simp
    exact hK.out _ _ rfl (zqr _ _) (zqv rfl)
   ·refine zso rfl [(24, some 104)] ?_;intro vs W hW hd K hK;have d24 : vs 24 = .bool false := hd 24 (by decide);clear hd
    try simp only [d24, putsD, Act.put, zqa, zqb, zqc, zqd, zqe, zqf] at hK ⊢
    go_simp
    exact hK.out _ _ rfl (zqr _ _) (zqv rfl)
   ·refine zso rfl [(24, some 104), (27, some 107)] ?_;intro vs W hW hd K hK;have d24 : vs 24 = .bool false := hd 24 (by decide);have d27 : vs 27 = .slice (some ⟨cl, 0, none⟩) M M := hd 27 (by decide);clear hd
    try simp only [d24, d27, putsD, Act.put, zqa, zqb, zqc, zqd, zqe, zqf] at hK ⊢
    go_simp
    exact hK.out _ _ rfl (zqr _ _) (zqv rfl)
   ·refine zso rfl [(24, some 104), (26, some 106), (28, some 108)] ?_;intro vs W hW hd K hK;have d24 : vs 24 = .bool false := hd 24 (by decide);have d26 : vs 26 = .int .i64 (M : Int) := hd 26 (by decide);have d28 : vs 28 = .int .i64 (M : Int) := hd 28 (by decide);clear hd
    try simp only [d24, d26, d28, putsD, Act.put, zqa, zqb, zqc, zqd, zqe, zqf] at hK ⊢
    go_simp
    exact hK.out _ _ rfl (zqr _ _) (zqv rfl)
   ·refine zso rfl [(24, some 104), (29, some 109)] ?_;intro vs W hW hd K hK;have d24 : vs 24 = .bool false := hd 24 (by decide);have d29 : vs 29 = .bool false := hd 29 (by decide);clear hd
    try simp only [d24, d29, putsD, Act.put, zqa, zqb, zqc, zqd, zqe, zqf] at hK ⊢
    go_simp
    exact hK.out _ _ rfl (zqr _ _) (zqv rfl)
   ·refine zso rfl [(30, some 110)] ?_;intro vs W hW hd K hK;have d30 : vs 30 = .bool false := hd 30 (by decide);clear hd
    try simp only [d30, putsD, Act.put, zqa, zqb, zqc, zqd, zqe, zqf] at hK ⊢
    go_simp
    exact hK.out _ _ rfl (zqr _ _) (zqv rfl)
   ·refine zso rfl [(31, some 111)] ?_;intro vs W hW hd K hK;have d31 : vs 31 = .bool false := hd 31 (by decide);clear hd
    try simp only [d31, putsD, Act.put, zqa, zqb, zqc, zqd, zqe, zqf] at hK ⊢
    go_simp
    exact hK.out _ _ rfl (zqr _ _) (zqv rfl)
   ·refine zso rfl [(31, some 111), (32, some 112)] ?_;intro vs W hW hd K hK;have d31 : vs 31 = .bool false := hd 31 (by decide);have d32 : vs 32 = .slice (some ⟨ch, 0, none⟩) M M := hd 32 (by decide);clear hd
    try simp only [d31, d32, putsD, Act.put, zqa, zqb, zqc, zqd, zqe, zqf] at hK ⊢
    go_simp
    exact hK.out _ _ rfl (zqr _ _) (zqv rfl)
   ·refine zso rfl [(31, some 111)] ?_;intro vs W hW hd K hK;have d31 : vs 31 = .bool false := hd 31 (by decide);clear hd
    try simp only [d31, putsD, Act.put, zqa, zqb, zqc, zqd, zqe, zqf] at hK ⊢
    go_simp
    exact hK.out _ _ rfl (zqr _ _) (zqv rfl)
   ·refine zso rfl [(31, some 111), (34, some 114)] ?_;intro vs W hW hd K hK;have d31 : vs 31 = .bool false := hd 31 (by decide);have d34 : vs 34 = .slice (some ⟨cl, 0, none⟩) M M := hd 34 (by decide);clear hd
    try simp only [d31, d34, putsD, Act.put, zqa, zqb, zqc, zqd, zqe, zqf] at hK ⊢
    go_simp
    exact hK.out _ _ rfl (zqr _ _) (zqv rfl)
   ·refine zso rfl [(31, some 111), (33, some 113), (35, some 115)] ?_;intro vs W hW hd K hK;have d31 : vs 31 = .bool false := hd 31 (by decide);have d33 : vs 33 = .int .i64 (M : Int) := hd 33 (by decide);have d35 : vs 35 = .int .i64 (M : Int) := hd 35 (by decide);clear hd
    try simp only [d31, d33, d35, putsD, Act.put, zqa, zqb, zqc, zqd, zqe, zqf] at hK ⊢
    go_simp
    exact hK.out _ _ rfl (zqr _ _) (zqv rfl)
   ·refine zso rfl [(31, some 111), (36, some 116)] ?_;intro vs W hW hd K hK;have d31 : vs 31 = .bool false := hd 31 (by decide);have d36 : vs 36 = .bool false := hd 36 (by decide);clear hd
    try simp only [d31, d36, putsD, Act.put, zqa, zqb, zqc, zqd, zqe, zqf] at hK ⊢
    go_simp
    exact hK.out _ _ rfl (zqr _ _) (zqv rfl)
  refine FinOk.intro [(0, some 80), (1, some 81), (2, some 82), (3, some 83), (4, some 84), (5, some 85), (6, some 86), (7, some 87), (8, some 88), (9, some 89), (10, some 90), (11, some 91), (12, some 92), (13, some 93), (14, some 94), (15, some 95), (16, some 96), (17, some 97), (18, some 98), (19, some 99), (20, some 100), (21, some 101), (22, some 102), (23, some 103), (24, some 104), (25, some 105), (26, some 106), (27, some 107), (28, some 108), (29, some 109), (30, some 110), (31, some 111), (32, some 112), (33, some 113), (34, some 114), (35, some 115), (36, some 116), (37, some 117)] #[true, true, true, true, true, true, true, true, true, true, true, true, true, true, true, true, true, true, true, true, true, true, true, true, true, true, true, true, true, true, true, true, true, true, true, true, true, true] 0 (by kernel_rfl) (by kernel_rfl) (by kernel_rfl) ?_;intro vs Wf hW0 hd hbk hdis kf;have hW := zqw hW0;have d0 : vs 0 = .int .i64 0 := hd 0 (by decide);have d1 : vs 1 = .bool false := hd 1 (by decide);have d2 : vs 2 = .bool false := hd 2 (by decide);have d3 : vs 3 = .int .i64 0 := hd 3 (by decide);have d4 : vs 4 = .bool false := hd 4 (by decide);have d5 : vs 5 = .bool false := hd 5 (by decide);have d6 : vs 6 = .bool false := hd 6 (by decide);have d7 : vs 7 = .int .i64 0 := hd 7 (by decide);have d8 : vs 8 = .bool false := hd 8 (by decide);have d9 : vs 9 = .bool false := hd 9 (by decide);have d10 : vs 10 = .bool false := hd 10 (by decide);have d11 : vs 11 = .agg #[.string (natB Sn), .string (natB Sd)] := hd 11 (by decide);have d12 : vs 12 = .string (dec C) := hd 12 (by decide);have d13 : vs 13 = .agg #[.string (natB C)] := hd 13 (by decide);have d14 : vs 14 = .string (dec C) := hd 14 (by decide);have d15 : vs 15 = .bool false := hd 15 (by decide);have d16 : vs 16 = .bool false := hd 16 (by decide);have d17 : vs 17 = .bool false := hd 17 (by decide);have d18 : vs 18 = .slice (some ⟨gl, 0, none⟩) M M := hd 18 (by decide);have d19 : vs 19 = .int .i64 (M : Int) := hd 19 (by decide);have d20 : vs 20 = .slice (some ⟨cl, 0, none⟩) M M := hd 20 (by decide);have d21 : vs 21 = .int .i64 (M : Int) := hd 21 (by decide);have d22 : vs 22 = .bool false := hd 22 (by decide);have d23 : vs 23 = .bool false := hd 23 (by decide);have d24 : vs 24 = .bool false := hd 24 (by decide);have d25 : vs 25 = .slice (some ⟨gh, 0, none⟩) M M := hd 25 (by decide);have d26 : vs 26 = .int .i64 (M : Int) := hd 26 (by decide);have d27 : vs 27 = .slice (some ⟨cl, 0, none⟩) M M := hd 27 (by decide);have d28 : vs 28 = .int .i64 (M : Int) := hd 28 (by decide);have d29 : vs 29 = .bool false := hd 29 (by decide);have d30 : vs 30 = .bool false := hd 30 (by decide);have d31 : vs 31 = .bool false := hd 31 (by decide);have d32 : vs 32 = .slice (some ⟨ch, 0, none⟩) M M := hd 32 (by decide);have d33 : vs 33 = .int .i64 (M : Int) := hd 33 (by decide);have d34 : vs 34 = .slice (some ⟨cl, 0, none⟩) M M := hd 34 (by decide);have d35 : vs 35 = .int .i64 (M : Int) := hd 35 (by decide);have d36 : vs 36 = .bool false := hd 36 (by decide);have d37 : vs 37 = .bool false := hd 37 (by decide);clear hd hbk hdis hW0
  try simp only [d0, d1, d2, d3, d4, d5, d6, d7, d8, d9, d10, d11, d12, d13, d14, d15, d16, d17, d18, d19, d20, d21, d22, d23, d24, d25, d26, d27, d28, d29, d30, d31, d32, d33, d34, d35, d36, d37, putsD, Act.put, zqa, zqb, zqc, zqd, zqe, zqf]
  clear d0 d1 d2 d3 d4 d5 d6 d7 d8 d9 d10 d11 d12 d13 d14 d15 d16 d17 d18 d19 d20 d21 d22 d23 d24 d25 d26 d27 d28 d29 d30 d31 d32 d33 d34 d35 d36 d37 vs;clear HS;refine wpAny_end (by kernel_rfl) ?_ _
  all_goals
   try go_wp2
   go_meet
   exact ⟨rfl, hW⟩
 case rest =>
 obtain ⟨rfl, hb8⟩ := hcut;replace RCL := zqh (rowBelow RCL.out hb8);replace RCH := zqh (rowBelow RCH.out hb8);replace RL := zqh (rowBelow RL.out hb8);replace RH := zqh (rowBelow RH.out hb8);replace X4 := zqh (X4.out.below hb8);clear hb8 R5 R10 HQT HNT HNC
 go_upto_region 15 with (fail)
 go_loopw [120] (fun t wr => ∃ k : Nat, k ≤ M ∧ t = .int .i64 k ∧ wr.rowIs cl 31 M (natsF LC) ∧ wr.rowIs ch 31 M (natsF HC) ∧ wr.rowIs gl 33 (M * 2) (prsF LP) ∧ wr.rowIs gh 33 (M * 2) (prsF HP) ∧ NbAt w N A c wr) (fun t _ => M - (intOf t).toNat)
 case atStart => exact ⟨0, Nat.zero_le _, rfl, RCL.out, RCH.out, RL.out, RH.out, X4.out⟩
 case round =>
  clear RCL RCH RL RH X4;obtain ⟨k, hk, rfl, rcl, rch, rl, rh, hq⟩ := hrel;by_cases hlt : k < M
  ·have hlt2 := HLT.out k hlt;have hht2 := HHT.out k hlt;have hlc2 := HLC.out k hlt;have hhc2 := HHC.out k hlt;obtain ⟨s1, s2⟩ := prsCell LP rl k (by omega);have s3 : wr.cell? ⟨cl, k, none⟩ = some (.string (natB (LC.getD k 0))) := rcl.cell hlt;obtain ⟨s4, s5⟩ := prsCell HP rh k (by omega);have s6 : wr.cell? ⟨ch, k, none⟩ = some (.string (natB (HC.getD k 0))) := rch.cell hlt;have g1 := rl.lt;have g2 := rcl.lt;have g3 := rh.lt;have g4 := rch.lt;have RCL := zqh rcl;have RCH := zqh rch;have RL := zqh rl;have RH := zqh rh;have X4 := zqh hq;obtain ⟨lp, hlp⟩ : ∃ p, LP.getD k (0, 0) = p := ⟨_, rfl⟩;obtain ⟨hp, hhp⟩ : ∃ p, HP.getD k (0, 0) = p := ⟨_, rfl⟩;obtain ⟨lc, hlc⟩ : ∃ p, LC.getD k 0 = p := ⟨_, rfl⟩;obtain ⟨hc, hhc⟩ : ∃ p, HC.getD k 0 = p := ⟨_, rfl⟩;rw [hlp] at hlt2 s1 s2;rw [hhp] at hht2 s4 s5;rw [hlc] at hlt2 hlc2 s3;rw [hhc] at hht2 hhc2 s6;clear hlp hhp hlc hhc rcl rch rl rh hq;obtain ⟨ln, ld⟩ := lp;obtain ⟨pn, pd⟩ := hp;have HLT2 := zqh hlt2;have HHT2 := zqh hht2;have HLC2 := zqh hlc2;have HHC2 := zqh hhc2;clear hlt2 hht2 hlc2 hhc2
   go_upto_region 17 with (fail)
   go_cut [146] from 123 to 146 (fun p wx => p = .bool false ∧ Below wr.heap.size wr wx)
   case first =>
    have HS : Hid (∀ W, Below wr.heap.size wr W → W.cell? ⟨gl, k * 2, none⟩ = some (.string (natB ln)) ∧ W.cell? ⟨gl, k * 2 + 1, none⟩ = some (.string (natB ld)) ∧ W.cell? ⟨cl, k, none⟩ = some (.string (natB lc)) ∧ W.cell? ⟨gh, k * 2, none⟩ = some (.string (natB pn)) ∧ W.cell? ⟨gh, k * 2 + 1, none⟩ = some (.string (natB pd)) ∧ W.cell? ⟨ch, k, none⟩ = some (.string (natB hc))) := zqh fun W hb => ⟨(hb.cell (p := ⟨gl, k * 2, none⟩) g1).trans s1, (hb.cell (p := ⟨gl, k * 2 + 1, none⟩) g1).trans s2, (hb.cell (p := ⟨cl, k, none⟩) g2).trans s3, (hb.cell (p := ⟨gh, k * 2, none⟩) g3).trans s4, (hb.cell (p := ⟨gh, k * 2 + 1, none⟩) g3).trans s5, (hb.cell (p := ⟨ch, k, none⟩) g4).trans s6⟩
    refine wp_region_props (n := _) (PX := [zqu (.slice (some ⟨gl, 0, none⟩) M M),
       zqu (.int .i64 (k : Int)),
       zqu (.pointer (some ⟨gl, k * 2, none⟩)),
       zqu (.agg #[.string (natB ln), .string (natB ld)]),
       zqu (.string (dec lc)),
       zqu (.slice (some ⟨cl, 0, none⟩) M M),
       zqu (.int .i64 (k : Int)),
       zqu (.pointer (some ⟨cl, k, none⟩)),
       zqu (.agg #[.string (natB lc)]),
       zqu (.string (dec lc)),
       zqu (.bool false),
       zqu (.bool false),
       zqu (.slice (some ⟨gh, 0, none⟩) M M),
       zqu (.int .i64 (k : Int)),
       zqu (.pointer (some ⟨gh, k * 2, none⟩)),
       zqu (.agg #[.string (natB pn), .string (natB pd)]),
       zqu (.string (dec hc)),
       zqu (.slice (some ⟨ch, 0, none⟩) M M),
       zqu (.int .i64 (k : Int)),
       zqu (.pointer (some ⟨ch, k, none⟩)),
       zqu (.agg #[.string (natB hc)]),
       zqu (.string (dec hc)),
       zqu (.bool false),
       zqu (.bool false)])
      (AL := []) (DP := [[], [], [0, 1], [2], [3], [], [], [5, 6], [7], [8], [4, 9], [10], [11], [11], [11, 12, 13], [11, 14], [11, 15], [11], [11], [11, 17, 18], [11, 19], [11, 20], [11, 16, 21], [11, 22]]) (L1 := [0, 1, 2, 3, 4, 5, 6, 7, 8, 9, 10, 11, 12, 13, 14, 15, 16, 17, 18, 19, 20, 21, 22, 23]) (ex := []) (by kernel_rfl) rfl (by kernel_rfl) ?_ ?_ (fin0 ?_)
    ·refine zqg ?_ (zqg ?_ (zqg ?_ (zqg ?_ (zqg ?_ (zqg ?_ (zqg ?_ (zqg ?_ (zqg ?_ (zqg ?_ (zqg ?_ (zqg ?_ (zqg ?_ (zqg ?_ (zqg ?_ (zqg ?_ (zqg ?_ (zqg ?_ (zqg ?_ (zqg ?_ (zqg ?_ (zqg ?_ (zqg ?_ (zqg ?_ zqi)))))))))))))))))))))))
     iterate 24 exact fun _ _ _ _ h _ => h
    ·refine zqg ?_ (zqg ?_ (zqg ?_ (zqg ?_ (zqg ?_ (zqg ?_ (zqg ?_ (zqg ?_ (zqg ?_ (zqg ?_ (zqg ?_ (zqg ?_ (zqg ?_ (zqg ?_ (zqg ?_ (zqg ?_ (zqg ?_ (zqg ?_ (zqg ?_ (zqg ?_ (zqg ?_ (zqg ?_ (zqg ?_ (zqg ?_ zqi)))))))))))))))))))))))
     ·refine zso rfl [] ?_;intro vs W hW hd K hK;clear hd
      try simp only [putsD, Act.put, zqa, zqb, zqc, zqd, zqe, zqf] at hK ⊢
      go_simp
      exact hK.out _ _ rfl (zqr _ _) (zqv rfl)
     ·refine zso rfl [] ?_;intro vs W hW hd K hK;clear hd
      try simp only [putsD, Act.put, zqa, zqb, zqc, zqd, zqe, zqf] at hK ⊢
      go_simp
      exact hK.out _ _ rfl (zqr _ _) (zqv rfl)
     ·refine zso rfl [(0, some 123), (1, some 124)] ?_;intro vs W hW hd K hK;have d0 : vs 0 = .slice (some ⟨gl, 0, none⟩) M M := hd 0 (by decide);have d1 : vs 1 = .int .i64 (k : Int) := hd 1 (by decide);clear hd
      try simp only [d0, d1, putsD, Act.put, zqa, zqb, zqc, zqd, zqe, zqf] at hK ⊢
      obtain ⟨m1, m2, m3, m4, m5, m6⟩ := HS.out W hW
      go_simp
      exact hK.out _ _ rfl (zqr _ _) (zqv rfl)
     ·refine zso rfl [(2, some 125)] ?_;intro vs W hW hd K hK;have d2 : vs 2 = .pointer (some ⟨gl, k * 2, none⟩) := hd 2 (by decide);clear hd
      try simp only [d2, putsD, Act.put, zqa, zqb, zqc, zqd, zqe, zqf] at hK ⊢
      obtain ⟨m1, m2, m3, m4, m5, m6⟩ := HS.out W hW
      go_simp
      exact hK.out _ _ rfl (zqr _ _) (zqv rfl)
     ·refine zso rfl [(3, some 126)] ?_;intro vs W hW hd K hK;have d3 : vs 3 = .agg #[.string (natB ln), .string (natB ld)] := hd 3 (by decide);clear hd
      try simp only [d3, putsD, Act.put, zqa, zqb, zqc, zqd, zqe, zqf] at hK ⊢
      go_simp
      go_at_call 28
      (with_reducible first | refine (HLT2.out _).mono ?_)
      rintro e w9 ⟨rfl, hb9⟩;exact hK.out _ _ (rfl) hb9 (fun h => absurd h (by decide))
     ·refine zso rfl [] ?_;intro vs W hW hd K hK;clear hd
      try simp only [putsD, Act.put, zqa, zqb, zqc, zqd, zqe, zqf] at hK ⊢
      go_simp
      exact hK.out _ _ rfl (zqr _ _) (zqv rfl)
     ·refine zso rfl [] ?_;intro vs W hW hd K hK;clear hd
      try simp only [putsD, Act.put, zqa, zqb, zqc, zqd, zqe, zqf] at hK ⊢
      go_simp
      exact hK.out _ _ rfl (zqr _ _) (zqv rfl)
     ·refine zso rfl [(5, some 128), (6, some 129)] ?_;intro vs W hW hd K hK;have d5 : vs 5 = .slice (some ⟨cl, 0, none⟩) M M := hd 5 (by decide);have d6 : vs 6 = .int .i64 (k : Int) := hd 6 (by decide);clear hd
      try simp only [d5, d6, putsD, Act.put, zqa, zqb, zqc, zqd, zqe, zqf] at hK ⊢
      obtain ⟨m1, m2, m3, m4, m5, m6⟩ := HS.out W hW
      go_simp
      exact hK.out _ _ rfl (zqr _ _) (zqv rfl)
     ·refine zso rfl [(7, some 130)] ?_;intro vs W hW hd K hK;have d7 : vs 7 = .pointer (some ⟨cl, k, none⟩) := hd 7 (by decide);clear hd
      try simp only [d7, putsD, Act.put, zqa, zqb, zqc, zqd, zqe, zqf] at hK ⊢
      obtain ⟨m1, m2, m3, m4, m5, m6⟩ := HS.out W hW
      go_simp
      exact hK.out _ _ rfl (zqr _ _) (zqv rfl)
     ·refine zso rfl [(8, some 131)] ?_;intro vs W hW hd K hK;have d8 : vs 8 = .agg #[.string (natB lc)] := hd 8 (by decide);clear hd
      try simp only [d8, putsD, Act.put, zqa, zqb, zqc, zqd, zqe, zqf] at hK ⊢
      go_simp
      go_at_call 47
      (with_reducible first | refine (HLC2.out _).mono ?_)
      rintro e w9 ⟨rfl, hb9⟩;exact hK.out _ _ (rfl) hb9 (fun h => absurd h (by decide))
     ·refine zso rfl [(4, some 127), (9, some 132)] ?_;intro vs W hW hd K hK;have d4 : vs 4 = .string (dec lc) := hd 4 (by decide);have d9 : vs 9 = .string (dec lc) := hd 9 (by decide);clear hd
      try simp only [d4, d9, putsD, Act.put, zqa, zqb, zqc, zqd, zqe, zqf] at hK ⊢
      go_simp
      exact hK.out _ _ rfl (zqr _ _) (zqv rfl)
     ·refine zso rfl [(10, some 133)] ?_;intro vs W hW hd K hK;have d10 : vs 10 = .bool false := hd 10 (by decide);clear hd
      try simp only [d10, putsD, Act.put, zqa, zqb, zqc, zqd, zqe, zqf] at hK ⊢
      go_simp
      exact hK.out _ _ rfl (zqr _ _) (zqv rfl)
     ·refine zso rfl [(11, some 134)] ?_;intro vs W hW hd K hK;have d11 : vs 11 = .bool false := hd 11 (by decide);clear hd
      try simp only [d11, putsD, Act.put, zqa, zqb, zqc, zqd, zqe, zqf] at hK ⊢
      go_simp
      exact hK.out _ _ rfl (zqr _ _) (zqv rfl)
     ·refine zso rfl [(11, some 134)] ?_;intro vs W hW hd K hK;have d11 : vs 11 = .bool false := hd 11 (by decide);clear hd
      try simp only [d11, putsD, Act.put, zqa, zqb, zqc, zqd, zqe, zqf] at hK ⊢
      go_simp
      exact hK.out _ _ rfl (zqr _ _) (zqv rfl)
     ·refine zso rfl [(11, some 134), (12, some 135), (13, some 136)] ?_;intro vs W hW hd K hK;have d11 : vs 11 = .bool false := hd 11 (by decide);have d12 : vs 12 = .slice (some ⟨gh, 0, none⟩) M M := hd 12 (by decide);have d13 : vs 13 = .int .i64 (k : Int) := hd 13 (by decide);clear hd
      try simp only [d11, d12, d13, putsD, Act.put, zqa, zqb, zqc, zqd, zqe, zqf] at hK ⊢
      obtain ⟨m1, m2, m3, m4, m5, m6⟩ := HS.out W hW
      go_simp
      exact hK.out _ _ rfl (zqr _ _) (zqv rfl)
     ·refine zso rfl [(11, some 134), (14, some 137)] ?_;intro vs W hW hd K hK;have d11 : vs 11 = .bool false := hd 11 (by decide);have d14 : vs 14 = .pointer (some ⟨gh, k * 2, none⟩) := hd 14 (by decide);clear hd
      try simp only [d11, d14, putsD, Act.put, zqa, zqb, zqc, zqd, zqe, zqf] at hK ⊢
      obtain ⟨m1, m2, m3, m4, m5, m6⟩ := HS.out W hW
      go_simp
      exact hK.out _ _ rfl (zqr _ _) (zqv rfl)
     ·refine zso rfl [(11, some 134), (15, some 138)] ?_;intro vs W hW hd K hK;have d11 : vs 11 = .bool false := hd 11 (by decide);have d15 : vs 15 = .agg #[.string (natB pn), .string (natB pd)] := hd 15 (by decide);clear hd
      try simp only [d11, d15, putsD, Act.put, zqa, zqb, zqc, zqd, zqe, zqf] at hK ⊢
      go_simp
      go_at_call 28
      (with_reducible first | refine (HHT2.out _).mono ?_)
      rintro e w9 ⟨rfl, hb9⟩;exact hK.out _ _ (rfl) hb9 (fun h => absurd h (by decide))
     ·refine zso rfl [(11, some 134)] ?_;intro vs W hW hd K hK;have d11 : vs 11 = .bool false := hd 11 (by decide);clear hd
      try simp only [d11, putsD, Act.put, zqa, zqb, zqc, zqd, zqe, zqf] at hK ⊢
      go_simp
      exact hK.out _ _ rfl (zqr _ _) (zqv rfl)
     ·refine zso rfl [(11, some 134)] ?_;intro vs W hW hd K hK;have d11 : vs 11 = .bool false := hd 11 (by decide);clear hd
      try simp only [d11, putsD, Act.put, zqa, zqb, zqc, zqd, zqe, zqf] at hK ⊢
      go_simp
      exact hK.out _ _ rfl (zqr _ _) (zqv rfl)
     ·refine zso rfl [(11, some 134), (17, some 140), (18, some 141)] ?_;intro vs W hW hd K hK;have d11 : vs 11 = .bool false := hd 11 (by decide);have d17 : vs 17 = .slice (some ⟨ch, 0, none⟩) M M := hd 17 (by decide);have d18 : vs 18 = .int .i64 (k : Int) := hd 18 (by decide);clear hd
      try simp only [d11, d17, d18, putsD, Act.put, zqa, zqb, zqc, zqd, zqe, zqf] at hK ⊢
      obtain ⟨m1, m2, m3, m4, m5, m6⟩ := HS.out W hW
      go_simp
      exact hK.out _ _ rfl (zqr _ _) (zqv rfl)
     ·refine zso rfl [(11, some 134), (19, some 142)] ?_;intro vs W hW hd K hK;have d11 : vs 11 = .bool false := hd 11 (by decide);have d19 : vs 19 = .pointer (some ⟨ch, k, none⟩) := hd 19 (by decide);clear hd
      try simp only [d11, d19, putsD, Act.put, zqa, zqb, zqc, zqd, zqe, zqf] at hK ⊢
      obtain ⟨m1, m2, m3, m4, m5, m6⟩ := HS.out W hW
      go_simp
      exact hK.out _ _ rfl (zqr _ _) (zqv rfl)
     ·refine zso rfl [(11, some 134), (20, some 143)] ?_;intro vs W hW hd K hK;have d11 : vs 11 = .bool false := hd 11 (by decide);have d20 : vs 20 = .agg #[.string (natB hc)] := hd 20 (by decide);clear hd
      try simp only [d11, d20, putsD, Act.put, zqa, zqb, zqc, zqd, zqe, zqf] at hK ⊢
      go_simp
      go_at_call 47
      (with_reducible first | refine (HHC2.out _).mono ?_)
      rintro e w9 ⟨rfl, hb9⟩;exact hK.out _ _ (rfl) hb9 (fun h => absurd h (by decide))
     ·refine zso rfl [(11, some 134), (16, some 139), (21, some 144)] ?_;intro vs W hW hd K hK;have d11 : vs 11 = .bool false := hd 11 (by decide);have d16 : vs 16 = .string (dec hc) := hd 16 (by decide);have d21 : vs 21 = .string (dec hc) := hd 21 (by decide);clear hd
      try simp only [d11, d16, d21, putsD, Act.put, zqa, zqb, zqc, zqd, zqe, zqf] at hK ⊢
      go_simp
      exact hK.out _ _ rfl (zqr _ _) (zqv rfl)
     ·refine zso rfl [(11, some 134), (22, some 145)] ?_;intro vs W hW hd K hK;have d11 : vs 11 = .bool false := hd 11 (by decide);have d22 : vs 22 = .bool false := hd 22 (by decide);clear hd
      try simp only [d11, d22, putsD, Act.put, zqa, zqb, zqc, zqd, zqe, zqf] at hK ⊢
      go_simp
      exact hK.out _ _ rfl (zqr _ _) (zqv rfl)
    refine FinOk.intro [(0, some 123), (1, some 124), (2, some 125), (3, some 126), (4, some 127), (5, some 128), (6, some 129), (7, some 130), (8, some 131), (9, some 132), (10, some 133), (11, some 134), (12, some 135), (13, some 136), (14, some 137), (15, some 138), (16, some 139), (17, some 140), (18, some 141), (19, some 142), (20, some 143), (21, some 144), (22, some 145), (23, some 146)] #[true, true, true, true, true, true, true, true, true, true, true, true, true, true, true, true, true, true, true, true, true, true, true, true] 0 (by kernel_rfl) (by kernel_rfl) (by kernel_rfl) ?_;intro vs Wf hW0 hd hbk hdis kf;have hW := zqw hW0;have d0 : vs 0 = .slice (some ⟨gl, 0, none⟩) M M := hd 0 (by decide);have d1 : vs 1 = .int .i64 (k : Int) := hd 1 (by decide);have d2 : vs 2 = .pointer (some ⟨gl, k * 2, none⟩) := hd 2 (by decide);have d3 : vs 3 = .agg #[.string (natB ln), .string (natB ld)] := hd 3 (by decide);have d4 : vs 4 = .string (dec lc) := hd 4 (by decide);have d5 : vs 5 = .slice (some ⟨cl, 0, none⟩) M M := hd 5 (by decide);have d6 : vs 6 = .int .i64 (k : Int) := hd 6 (by decide);have d7 : vs 7 = .pointer (some ⟨cl, k, none⟩) := hd 7 (by decide);have d8 : vs 8 = .agg #[.string (natB lc)] := hd 8 (by decide);have d9 : vs 9 = .string (dec lc) := hd 9 (by decide);have d10 : vs 10 = .bool false := hd 10 (by decide);have d11 : vs 11 = .bool false := hd 11 (by decide);have d12 : vs 12 = .slice (some ⟨gh, 0, none⟩) M M := hd 12 (by decide);have d13 : vs 13 = .int .i64 (k : Int) := hd 13 (by decide);have d14 : vs 14 = .pointer (some ⟨gh, k * 2, none⟩) := hd 14 (by decide);have d15 : vs 15 = .agg #[.string (natB pn), .string (natB pd)] := hd 15 (by decide);have d16 : vs 16 = .string (dec hc) := hd 16 (by decide);have d17 : vs 17 = .slice (some ⟨ch, 0, none⟩) M M := hd 17 (by decide);have d18 : vs 18 = .int .i64 (k : Int) := hd 18 (by decide);have d19 : vs 19 = .pointer (some ⟨ch, k, none⟩) := hd 19 (by decide);have d20 : vs 20 = .agg #[.string (natB hc)] := hd 20 (by decide);have d21 : vs 21 = .string (dec hc) := hd 21 (by decide);have d22 : vs 22 = .bool false := hd 22 (by decide);have d23 : vs 23 = .bool false := hd 23 (by decide);clear hd hbk hdis hW0
    try simp only [d0, d1, d2, d3, d4, d5, d6, d7, d8, d9, d10, d11, d12, d13, d14, d15, d16, d17, d18, d19, d20, d21, d22, d23, putsD, Act.put, zqa, zqb, zqc, zqd, zqe, zqf]
    clear d0 d1 d2 d3 d4 d5 d6 d7 d8 d9 d10 d11 d12 d13 d14 d15 d16 d17 d18 d19 d20 d21 d22 d23 vs;clear HS;refine wpAny_end (by kernel_rfl) ?_ _
    all_goals
     try go_wp2
     go_meet
     exact ⟨rfl, hW⟩
   case rest =>
   obtain ⟨rfl, hb8⟩ := hcut;clear s1 s2 s3 s4 s5 s6 g1 g2 g3 g4
   go_wp2
   all_goals
    go_roundw
    case rel => exact ⟨k + 1, by omega, by go_num, rowBelow RCL.out hb8, rowBelow RCH.out hb8, rowBelow RL.out hb8, rowBelow RH.out hb8, X4.out.below hb8⟩
    case measure => simp [intOf]; omega
  ·obtain rfl : k = M := by omega
   have X4 := zqh hq;clear rcl rch rl rh hq
   go_wp2_with (go_at_call 15; (with_reducible refine (works_any _ (HT.out.below X4.out.bl)).mono ?_); rintro e w8 ⟨rfl, hb8⟩; have X6 := zqh (X4.out.below hb8))
   all_goals
    go_ret
    exact ⟨rfl, X6.out.bl⟩
end Go.Proofs.YtmhllppjcilllaaGreatDoor
