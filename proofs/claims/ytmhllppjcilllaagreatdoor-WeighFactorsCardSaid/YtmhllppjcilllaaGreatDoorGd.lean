import Derived.Test.YtmhllppjcilllaaGreatDoorFg
import Derived.BigGuardPart
set_option linter.unusedSimpArgs false
set_option linter.unusedVariables false
set_option maxRecDepth 100000
set_option maxHeartbeats 8000000
open Go Go.RowKit Cs
namespace Go.Proofs.YtmhllppjcilllaaGreatDoor
theorem factors_no (w : World) (hT : Tab w) (N : Nt) (A : Option Addr) (c : Nat) (Aw : Option Addr) (lw cw : Nat) (At : Option Addr) (lt ct : Nat) (hlen : N.l.length ≤ 140737488355328) (hN : NtAt w w.heap.size A N.l) (pk sg mo : Nat) (hno : askB N lt = false ∨ (vld N && dcmp N) = false) :
  Calls Tryz.prog 7 #[askV N A c Aw lw cw At lt ct, .int .u8 (pk : Int), .int .u8 (sg : Int), .int .u8 (mo : Int)] w fun e w' => e = .returned (.bool true) ∧ Below w.heap.size w w' := by
 have q0 : Kp w [eAsk w.heap.size N A c Aw lw cw At lt ct] (w.alloc (.cells #[.int .i64 N.n, .slice A N.l.length c, .slice Aw lw cw, .slice At lt ct] 28)) := (Kp.nil w).new _ _ w.heap.size 4 rfl rfl;obtain ⟨s1, s2, s3, s4⟩ := fourCells (q0.row 0 rfl);have hli : ∀ W, Below w.heap.size w W → _ := fun W h => askLight_any W N A c Aw lw cw At lt ct hlen ((hN.below h).more h.size);have hdc : ∀ W, Below w.heap.size w W → _ := fun W h => dcmp_any W N A c hlen ((hN.below h).more h.size);have HLI := zqh hli;have HDC := zqh hdc;have HT := zqh hT;have Q0 := zqh q0;clear hli hdc hT q0;by_cases hl : askB N lt = true
 ·have hd : (vld N && dcmp N) = false := by rcases hno with h | h; (· rw [hl] at h; cases h); exact h
  rw [hl] at HLI;rw [hd] at HDC;clear hno hl hd
  go_enter Tryz.func7, Tryz.ntmps7
  go_wp2_with (first
   | (go_at_call 14; (with_reducible refine (HLI.out _ Q0.out.bl).mono ?_); rintro e w1 ⟨rfl, hb1⟩; have Q1 := zqh (Q0.out.below hb1); clear hb1 s1 s2 s3 s4; obtain ⟨s1, s2, s3, s4⟩ := fourCells (Q1.out.row 0 rfl))
   | (go_at_call 25; (with_reducible refine (HDC.out _ Q1.out.bl).mono ?_); rintro e w2 ⟨rfl, hb2⟩; have Q2 := zqh (Q1.out.below hb2); clear hb2 s1 s2 s3 s4)
   | (go_at_call 15; (with_reducible refine (works_any _ (HT.out.below Q2.out.bl)).mono ?_); rintro e w3 ⟨rfl, hb3⟩; have Q3 := zqh (Q2.out.below hb3)))
  all_goals
   go_ret
   exact ⟨rfl, Q3.out.bl⟩
 ·have hl' : askB N lt = false := by simpa using hl
  rw [hl'] at HLI;clear hno hl hl'
  go_enter Tryz.func7, Tryz.ntmps7
  go_wp2_with (first
   | (go_at_call 14; (with_reducible refine (HLI.out _ Q0.out.bl).mono ?_); rintro e w1 ⟨rfl, hb1⟩; have Q1 := zqh (Q0.out.below hb1); clear hb1 s1 s2 s3 s4; obtain ⟨s1, s2, s3, s4⟩ := fourCells (Q1.out.row 0 rfl))
   | (go_at_call 15; (with_reducible refine (works_any _ (HT.out.below Q1.out.bl)).mono ?_); rintro e w2 ⟨rfl, hb2⟩; have Q2 := zqh (Q1.out.below hb2)))
  all_goals
   go_ret
   exact ⟨rfl, Q2.out.bl⟩
theorem factors_main (w : World) (hT : Tab w) (N : Nt) (A : Option Addr) (c : Nat) (Aw : Option Addr) (lw cw : Nat) (At : Option Addr) (lt ct : Nat) (hlen : N.l.length ≤ 140737488355328) (hN : NtAt w w.heap.size A N.l) (pk sg mo : Nat) (M : Nat) (L H : List Pr) (hM : M ≤ 129)
  (haw : ∀ W, Below w.heap.size w W → Calls Tryz.prog 17 #[askV N A c Aw lw cw At lt ct] W fun e w' => ∃ v g1 c1 g2 c2 F1 F2, e = .returned v ∧ WtV W.heap.size M L H v g1 c1 g2 c2 F1 F2 w' ∧ Below W.heap.size W w') (hl : askB N lt = true) (hd : (vld N && dcmp N) = true) (n : Nat) (hnn : N.n = (n : Int)) (hMn : M = n + 1) (hpk : pk < 256) (hsg : sg < 256) (hmo : mo < 256) (hn8 : n ≤ 8) (hLl : L.length = M) (hHl : H.length = M) (E : Int) (hEE : E = 0 ∨ E = 2) (T T2 a1 a2 S Pm Y : Pr)
  (hto : ∀ W g1 c1 g2 c2, NtAt W W.heap.size A N.l → Tab W → Rd W W.heap.size (some ⟨g1, 0, none⟩) (M * 2) (prsF L) → Rd W W.heap.size (some ⟨g2, 0, none⟩) (M * 2) (prsF H) → M ≤ c1 → M ≤ c2 → Calls Tryz.prog 16 #[ntV N A c, wtsV (some ⟨g1, 0, none⟩) (some ⟨g2, 0, none⟩) M M c1 c2] W fun e w' => e = .returned (.tuple #[ratV T.1 T.2, .int .i64 E]) ∧ Below W.heap.size W w')
  (htw : ∀ W a3 c1 a4 c2, NtAt W W.heap.size A N.l → Tab W → Rd W W.heap.size a3 ((M + 1) * 2) (prsF (L ++ [a1])) → Rd W W.heap.size a4 ((M + 1) * 2) (prsF (H ++ [a2])) → M + 1 ≤ c1 → M + 1 ≤ c2 → Calls Tryz.prog 16 #[.agg #[.int .i64 (N.n + 1), .slice A N.l.length c], wtsV a3 a4 (M + 1) (M + 1) c1 c2] W fun e w' => e = .returned (.tuple #[ratV T2.1 T2.2, .int .i64 E]) ∧ Below W.heap.size W w')
  (ho1 : ∀ W, Calls Tryz.prog 29 #[.int .u64 ((sg % 9 : Nat) : Int), .int .u64 2] W fun e w' => e = .returned (ratV a1.1 a1.2) ∧ Below W.heap.size W w')
  (ho2 : ∀ W, Calls Tryz.prog 29 #[.int .u64 ((mo % 9 : Nat) : Int), .int .u64 3] W fun e w' => e = .returned (ratV a2.1 a2.2) ∧ Below W.heap.size W w')
  (ho3 : ∀ W, Calls Tryz.prog 29 #[.int .u64 ((sg % 9 : Nat) : Int), .int .u64 (((mo % 9 : Nat) : Int) + 1)] W fun e w' => e = .returned (ratV Y.1 Y.2) ∧ Below W.heap.size W w')
  (had : ∀ W, Calls Tryz.prog 27 #[ratV a1.1 a1.2, ratV a2.1 a2.2] W fun e w' => e = .returned (ratV S.1 S.2) ∧ Below W.heap.size W w')
  (hmu : ∀ W, Calls Tryz.prog 30 #[ratV T.1 T.2, ratV S.1 S.2] W fun e w' => e = .returned (ratV Pm.1 Pm.2) ∧ Below W.heap.size W w')
  (hsm : ∀ W, Calls Tryz.prog 26 #[ratV T2.1 T2.2, ratV Pm.1 Pm.2] W fun e w' => e = .returned (.bool true) ∧ Below W.heap.size W w')
  (hfa : ∀ v, 1 ≤ v → v ≤ n → E = 0 → ∃ l2 h2 T3 Z : Pr, (∀ W, Calls Tryz.prog 30 #[ratV (L.getD v (0, 0)).1 (L.getD v (0, 0)).2, ratV Y.1 Y.2] W fun e w' => e = .returned (ratV l2.1 l2.2) ∧ Below W.heap.size W w') ∧
    (∀ W, Calls Tryz.prog 30 #[ratV (H.getD v (0, 0)).1 (H.getD v (0, 0)).2, ratV Y.1 Y.2] W fun e w' => e = .returned (ratV h2.1 h2.2) ∧ Below W.heap.size W w') ∧
    (∀ W g1 c1 g2 c2, NtAt W W.heap.size A N.l → Tab W → Rd W W.heap.size (some ⟨g1, 0, none⟩) (M * 2) (prsF (L.set v l2)) → Rd W W.heap.size (some ⟨g2, 0, none⟩) (M * 2) (prsF (H.set v h2)) → M ≤ c1 → M ≤ c2 → Calls Tryz.prog 16 #[ntV N A c, wtsV (some ⟨g1, 0, none⟩) (some ⟨g2, 0, none⟩) M M c1 c2] W fun e w' => e = .returned (.tuple #[ratV T3.1 T3.2, .int .i64 0]) ∧ Below W.heap.size W w') ∧
    (∀ W, Calls Tryz.prog 30 #[ratV T.1 T.2, ratV Y.1 Y.2] W fun e w' => e = .returned (ratV Z.1 Z.2) ∧ Below W.heap.size W w') ∧
    ∀ W, Calls Tryz.prog 26 #[ratV T3.1 T3.2, ratV Z.1 Z.2] W fun e w' => e = .returned (.bool true) ∧ Below W.heap.size W w') :
  Calls Tryz.prog 7 #[askV N A c Aw lw cw At lt ct, .int .u8 (pk : Int), .int .u8 (sg : Int), .int .u8 (mo : Int)] w fun e w' => e = .returned (.bool true) ∧ Below w.heap.size w w' := by
 have q0 : Kp w [eAsk w.heap.size N A c Aw lw cw At lt ct] (w.alloc (.cells #[.int .i64 N.n, .slice A N.l.length c, .slice Aw lw cw, .slice At lt ct] 28)) := (Kp.nil w).new _ _ w.heap.size 4 rfl rfl;obtain ⟨s1, s2, s3, s4⟩ := fourCells (q0.row 0 rfl);have hli : ∀ W, Below w.heap.size w W → _ := fun W h => askLight_any W N A c Aw lw cw At lt ct hlen ((hN.below h).more h.size);have hdc : ∀ W, Below w.heap.size w W → _ := fun W h => dcmp_any W N A c hlen ((hN.below h).more h.size);rw [hl] at hli;rw [hd] at hdc;have HLI := zqh hli;have HDC := zqh hdc;have HAW := zqh haw;have HNN := zqh hnn;have HMN := zqh hMn;have HPK := zqh hpk;have HSG := zqh hsg;have HMO := zqh hmo;have HN8 := zqh hn8;have HLL := zqh hLl;have HHL := zqh hHl;have HEE := zqh hEE;have HTO := zqh hto;have HTW := zqh htw;have HO1 := zqh ho1;have HO2 := zqh ho2;have HO3 := zqh ho3;have HAD := zqh had;have HMU := zqh hmu;have HSM := zqh hsm;have HFA := zqh hfa;have HM := zqh hM;have HT := zqh hT;have HN := zqh hN;have Q0 := zqh q0;clear hli hdc hT q0 hN hl hd haw hnn hMn hpk hsg hmo hn8 hLl hHl hEE hto htw ho1 ho2 ho3 had hmu hsm hfa hM
 go_enter Tryz.func7, Tryz.ntmps7
 go_upto_region 3 with (first
   | (go_at_call 14; (with_reducible refine (HLI.out _ Q0.out.bl).mono ?_); rintro e w1 ⟨rfl, hb1⟩; have Q1 := zqh (Q0.out.below hb1); clear hb1 s1 s2 s3 s4; obtain ⟨s1, s2, s3, s4⟩ := fourCells (Q1.out.row 0 rfl))
   | (go_at_call 25; (with_reducible refine (HDC.out _ Q1.out.bl).mono ?_); rintro e V0 ⟨rfl, hb2⟩; have Q2 := zqh (Q1.out.below hb2); clear hb2 s1 s2 s3 s4; obtain ⟨s1, s2, s3, s4⟩ := fourCells (Q2.out.row 0 rfl)))
 go_cut [9] from 32 to 33 (fun q wx => ∃ b9 g1 c1 g2 c2 F1 F2, q = .pointer (some ⟨b9, 0, none⟩) ∧ wx.rowIs b9 39 2 (arrF #[.slice (some ⟨g1, 0, none⟩) M c1, .slice (some ⟨g2, 0, none⟩) M c2]) ∧ WtV w.heap.size M L H (.agg #[.slice (some ⟨g1, 0, none⟩) M c1, .slice (some ⟨g2, 0, none⟩) M c2]) g1 c1 g2 c2 F1 F2 wx ∧ g1 ≠ b9 ∧ g2 ≠ b9 ∧ w.heap.size ≤ b9 ∧ Kp w [eAsk w.heap.size N A c Aw lw cw At lt ct] wx)
 case first =>
  go_wp2_with (go_at_call 17; (with_reducible refine (HAW.out _ Q2.out.bl).mono ?_); rintro e w3 ⟨v, g1, c1, g2, c2, F1, F2, rfl, hq3, hb3⟩; obtain rfl := hq3.v)
  all_goals
   go_meet
   exact ⟨w3.heap.size, g1, c1, g2, c2, F1, F2, rfl, arrNew w3 _ _ _ _ rfl rfl, (hq3.more Q2.out.bl.size).below ((zqr _ _).alloc (zqn _) _), Nat.ne_of_lt hq3.r1.lt, Nat.ne_of_lt hq3.r2.lt, (Q2.out.below hb3).bl.size, (Q2.out.below hb3).alloc _⟩
 case rest =>
 obtain ⟨V1, rfl⟩ : ∃ V, V = wc := ⟨wc, rfl⟩;obtain ⟨b9, g1, c1, g2, c2, F1, F2, rfl, r9, hq, ngl, ngh, hb9, hkp⟩ := hcut;obtain ⟨b4, hb4⟩ : ∃ b, w.heap.size = b := ⟨_, rfl⟩;have hcl := fourCells (hkp.row 0 rfl);have hqs : QnS N A c w.heap.size b9 g1 c1 g2 c2 M L H V1 := ⟨hcl.1, hcl.2.1, r9.cell (i := 0) (by decide), r9.cell (i := 1) (by decide), (HN.out.below hkp.bl).more hkp.bl.size, ⟨hq.m1, F1, hq.r1, hq.f1⟩, ⟨hq.m2, F2, hq.r2, hq.f2⟩, HT.out.below hkp.bl⟩;have NGG := zqh hq.ne;have NGL := zqh ngl;have NGH := zqh ngh;have O1 := zqh hq.o1;have O2 := zqh hq.o2;have M1 := zqh hq.m1;have M2 := zqh hq.m2;have BW1 := zqh hq.b1;have BW2 := zqh hq.b2;have BW9 := zqh hb9;have GL1 := zqh hq.r1.lt;have GL2 := zqh hq.r2.lt;have NA1 := zqh (row_ne (hkp.row 0 rfl) hq.r1 (by decide));have NA2 := zqh (row_ne (hkp.row 0 rfl) hq.r2 (by decide));have NA9 := zqh (row_ne (hkp.row 0 rfl) r9 (by decide));have BL1 := zqh hkp.bl;have HS1 := zqh (fun W (hb : Below V1.heap.size V1 W) => hqs.below hb);have X1 := zqh (Kp.nil V1);obtain ⟨t1, t2, t3, t4⟩ := hqs.cells;clear hb4 b4 hb9 hcl hqs hq r9 hkp ngl ngh HAW HDC HLI Q0 Q1 Q2 s1 s2 s3 s4
 go_upto_region 4 with (fail)
 obtain ⟨x, hx⟩ : ∃ x, sg % 9 = x := ⟨_, rfl⟩;obtain ⟨y, hy⟩ : ∃ x, mo % 9 = x := ⟨_, rfl⟩
 have hx9 : x < 9 := by rw [← hx]; exact Nat.mod_lt _ (by decide)
 have hy9 : y < 9 := by rw [← hy]; exact Nat.mod_lt _ (by decide)
 have hxt : ((sg : Int)).tmod 9 = (x : Int) := by rw [← hx]; rfl
 have hyt : ((mo : Int)).tmod 9 = (y : Int) := by rw [← hy]; rfl
 have hxw : IntKind.u64.wrap (x : Int) = (x : Int) := by rw [IntKind.wrap_u64]; omega
 have hyw : IntKind.u64.wrap (y : Int) = (y : Int) := by rw [IntKind.wrap_u64]; omega
 have hyw1 : IntKind.u64.wrap ((y : Int) + 1) = (y : Int) + 1 := by rw [IntKind.wrap_u64]; omega
 rw [hx] at HO1 HO3;rw [hy] at HO2 HO3;clear hx hy;obtain ⟨a11, a12⟩ := a1;obtain ⟨a21, a22⟩ := a2
 go_cut [10, 11] from 34 to 40 (fun p q wx => ∃ b10, p = .pointer (some ⟨b10, 0, none⟩) ∧ q = .int .i64 E ∧ Kp V1 [eRat b10 T] wx ∧ V1.heap.size ≤ b10)
 case first =>
  have hz := HS1.out _ X1.out.bl;have HZ := zqh hz;clear hz
  go_wp2_with (go_at_call 16; (with_reducible refine (HTO.out _ _ _ _ _ HZ.out.nt HZ.out.tb HZ.out.w1.rd HZ.out.w2.rd M1.out M2.out).mono ?_); rintro e w3 ⟨rfl, hb3⟩)
  all_goals
   go_meet
   exact ⟨w3.heap.size, rfl, rfl, Kp_same0 ((X1.out.below hb3).new _ _ w3.heap.size 2 rfl rfl) (ratF_arr T.1 T.2), (X1.out.below hb3).bl.size⟩
 case rest =>
 obtain ⟨b10, rfl, rfl, hq, hb10⟩ := hcut;have B10 := zqh hb10;clear hb10;clear t1 t2 t3 t4 X1;obtain ⟨t1, t2, t3, t4⟩ := (HS1.out _ hq.bl).cells;have X2 := zqh hq;clear hq
 have hw1 : IntKind.i64.wrap (N.n + 1) = N.n + 1 := by have := HNN.out; have := HN8.out; rw [IntKind.wrap_i64]; omega
 go_upto_region 5 with (fail)
 go_cut [12] from 41 to 48 (fun p wx => ∃ b12, p = .pointer (some ⟨b12, 0, none⟩) ∧ Kp V1 [(b12, 24, 2, arrF #[.int .i64 (N.n + 1), .slice A N.l.length c]), eRat b10 T] wx)
 case first =>
  go_wp2
  go_meet
  exact ⟨_, rfl, X2.out.new _ _ _ 2 rfl rfl⟩
 case rest =>
 obtain ⟨b12, rfl, hq⟩ := hcut;clear t1 t2 t3 t4 X2;have X3 := zqh hq;clear hq hw1
 go_upto_region 6 with (fail)
 go_cut [13, 14] from 49 to 56 (fun p q wx => ∃ b13 b14, p = .pointer (some ⟨b13, 0, none⟩) ∧ q = .pointer (some ⟨b14, 0, none⟩) ∧ Kp V1 [eRat b14 (a21, a22), eRat b13 (a11, a12), (b12, 24, 2, arrF #[.int .i64 (N.n + 1), .slice A N.l.length c]), eRat b10 T] wx)
 case first =>
  go_wp2_with (first
   | (go_at_call 29; (with_reducible refine (HO1.out _).mono ?_); rintro e w4 ⟨rfl, hb4⟩; have X4 := zqh (X3.out.below hb4); clear hb4)
   | (go_at_call 29; (with_reducible refine (HO2.out _).mono ?_); rintro e w5 ⟨rfl, hb5⟩; have X5 := zqh (X4.out.below hb5); clear hb5))
  all_goals
   go_meet
   exact ⟨_, _, rfl, rfl, Kp_same0 ((Kp_same0 (X5.out.new _ _ w5.heap.size 2 rfl rfl) (ratF_arr a11 a12)).new _ _ (w5.heap.size + 1) 2 (by simp) rfl) (ratF_arr a21 a22)⟩
 case rest =>
 obtain ⟨b13, b14, rfl, rfl, hq⟩ := hcut;obtain ⟨V6, rfl⟩ : ∃ V, V = wc := ⟨wc, rfl⟩;have X6 := zqh hq;have HXT := zqh hxt;have HYT := zqh hyt;clear hq X3 hxt hyt
 go_upto_region 7 with (fail)
 go_cut [15] from 57 to 71 (fun p wx => ∃ b15 ga gc ha hc, p = .pointer (some ⟨b15, 0, none⟩) ∧ wx.rowIs b15 39 2 (arrF #[.slice ga (M + 1) gc, .slice ha (M + 1) hc]) ∧ M + 1 ≤ gc ∧ M + 1 ≤ hc ∧ Rd wx wx.heap.size ga ((M + 1) * 2) (prsF (L ++ [(a11, a12)])) ∧ Rd wx wx.heap.size ha ((M + 1) * 2) (prsF (H ++ [(a21, a22)])) ∧ Below V6.heap.size V6 wx)
 case first =>
  obtain ⟨_, _, s1, s2⟩ := (HS1.out _ X6.out.bl).cells;obtain ⟨s3, s4⟩ := ratCells (X6.out.row 1 rfl);obtain ⟨s5, s6⟩ := ratCells (X6.out.row 0 rfl);have gb9 := World.block_lt_of_cell? _ _ s1;have gb13 := World.block_lt_of_cell? _ _ s3;have gb14 := World.block_lt_of_cell? _ _ s5;have o1' := ownsBelow O1.out X6.out.bl;have o2' := ownsBelow O2.out X6.out.bl;clear O1 O2;have O1 := zqh o1';have O2 := zqh o2';clear o1' o2';have HS : Hid (∀ W, Below V6.heap.size V6 W → W.cell? ⟨b9, 0, none⟩ = some (.slice (some ⟨g1, 0, none⟩) M c1) ∧ W.cell? ⟨b9, 1, none⟩ = some (.slice (some ⟨g2, 0, none⟩) M c2) ∧ W.cell? ⟨b13, 0, none⟩ = some (.string (natB a11)) ∧ W.cell? ⟨b13, 1, none⟩ = some (.string (natB a12)) ∧ W.cell? ⟨b14, 0, none⟩ = some (.string (natB a21)) ∧ W.cell? ⟨b14, 1, none⟩ = some (.string (natB a22))) := zqh fun W hb => ⟨(hb.cell (p := ⟨b9, 0, none⟩) gb9).trans s1, (hb.cell (p := ⟨b9, 1, none⟩) gb9).trans s2, (hb.cell (p := ⟨b13, 0, none⟩) gb13).trans s3, (hb.cell (p := ⟨b13, 1, none⟩) gb13).trans s4, (hb.cell (p := ⟨b14, 0, none⟩) gb14).trans s5, (hb.cell (p := ⟨b14, 1, none⟩) gb14).trans s6⟩
  refine wp_region_own (n := _) (PX := [fun xl xv xw => World.ownsRow xw V6.heap.size 33 2 xv 0 [],
     zqu (.pointer (some ⟨b9, 0, none⟩)),
     zqu (.slice (some ⟨g1, 0, none⟩) M c1),
     fun xl xv xw => World.ownsRow xw V6.heap.size 33 2 xv (0 + M) ([] ++ ((List.range (M * 2)).map (prsF L))),
     zqu (.agg #[.string (natB a11), .string (natB a12)]),
     fun xl xv xw => World.ownsRow xw V6.heap.size 33 2 xv 1 [.string (natB a11), .string (natB a12)],
     fun xl xv xw => World.ownsRow xw V6.heap.size 33 2 xv ((0 + M) + 1) (([] ++ ((List.range (M * 2)).map (prsF L))) ++ [.string (natB a11), .string (natB a12)]),
     fun xl xv xw => World.ownsRow xw V6.heap.size 33 2 xv 0 [],
     zqu (.pointer (some ⟨b9, 1, none⟩)),
     zqu (.slice (some ⟨g2, 0, none⟩) M c2),
     fun xl xv xw => World.ownsRow xw V6.heap.size 33 2 xv (0 + M) ([] ++ ((List.range (M * 2)).map (prsF H))),
     zqu (.agg #[.string (natB a21), .string (natB a22)]),
     fun xl xv xw => World.ownsRow xw V6.heap.size 33 2 xv 1 [.string (natB a21), .string (natB a22)],
     fun xl xv xw => World.ownsRow xw V6.heap.size 33 2 xv ((0 + M) + 1) (([] ++ ((List.range (M * 2)).map (prsF H))) ++ [.string (natB a21), .string (natB a22)]),
     fun xl xv xw => xv = .agg #[xl.getD 0 undef, xl.getD 1 undef],
     fun xl xv xw => ∃ X, xv = .pointer (some ⟨X, 0, none⟩) ∧ V6.heap.size ≤ X ∧ World.rowIs xw X 39 2 (arrF #[.slice none 0 0, .slice none 0 0]),
     fun xl xv xw => xv = xl.headD undef ∧ ∃ X, xv = .pointer (some ⟨X, 0, none⟩) ∧ V6.heap.size ≤ X ∧ World.rowIs xw X 39 2 (arrF #[xl.getD 2 undef, xl.getD 3 undef])])
    (AL := [0, 3, 5, 6, 7, 10, 12, 13, 15, 16]) (KL := [(3, 0), (6, 3), (10, 7), (13, 10), (16, 15)]) (DP := [[], [], [1], [0, 2], [], [4], [3, 5], [], [], [8], [7, 9], [], [11], [10, 12], [6, 13], [], [15, 14, 6, 13]]) (L1 := [0, 1, 2, 3, 4, 5, 6, 7, 8, 9, 10, 11, 12, 13, 14, 15, 16]) (ex := []) (by kernel_rfl) rfl (by kernel_rfl) (by kernel_rfl) ?_ ?_ ?_ (fun bs hbs => ?_)
  ·intro i hi
   match i, hi with
   | 0, hi => exact absurd hi (by decide)
   | 1, hi => exact fun _ _ _ _ h => h
   | 2, hi => exact fun _ _ _ _ h => h
   | 3, hi => exact absurd hi (by decide)
   | 4, hi => exact fun _ _ _ _ h => h
   | 5, hi => exact absurd hi (by decide)
   | 6, hi => exact absurd hi (by decide)
   | 7, hi => exact absurd hi (by decide)
   | 8, hi => exact fun _ _ _ _ h => h
   | 9, hi => exact fun _ _ _ _ h => h
   | 10, hi => exact absurd hi (by decide)
   | 11, hi => exact fun _ _ _ _ h => h
   | 12, hi => exact absurd hi (by decide)
   | 13, hi => exact absurd hi (by decide)
   | 14, hi => exact fun _ _ _ _ h => h
   | 15, hi => exact absurd hi (by decide)
   | 16, hi => exact absurd hi (by decide)
   | i + 17, _ => exact fun _ _ _ _ _ => trivial
  ·intro i hi
   match i, hi with
   | 0, hi => exact fun l v w w2 h _ hb => own_loc h hb
   | 1, hi => exact absurd hi (by decide)
   | 2, hi => exact absurd hi (by decide)
   | 3, hi => exact fun l v w w2 h _ hb => own_loc h hb
   | 4, hi => exact absurd hi (by decide)
   | 5, hi => exact fun l v w w2 h _ hb => own_loc h hb
   | 6, hi => exact fun l v w w2 h _ hb => own_loc h hb
   | 7, hi => exact fun l v w w2 h _ hb => own_loc h hb
   | 8, hi => exact absurd hi (by decide)
   | 9, hi => exact absurd hi (by decide)
   | 10, hi => exact fun l v w w2 h _ hb => own_loc h hb
   | 11, hi => exact absurd hi (by decide)
   | 12, hi => exact fun l v w w2 h _ hb => own_loc h hb
   | 13, hi => exact fun l v w w2 h _ hb => own_loc h hb
   | 14, hi => exact absurd hi (by decide)
   | 15, hi => exact fun l v w w2 h _ hb => by obtain ⟨X, h1, h2, h3⟩ := h; subst h1; exact ⟨X, rfl, h2, row_loc h3 hb⟩
   | 16, hi => exact fun l v w w2 h _ hb => by obtain ⟨h0, X, h1, h2, h3⟩ := h; subst h1; exact ⟨h0, X, rfl, h2, row_loc h3 hb⟩
   | i + 17, _ => exact fun _ _ _ _ _ _ _ => trivial
  ·refine zqg ?_ (zqg ?_ (zqg ?_ (zqg ?_ (zqg ?_ (zqg ?_ (zqg ?_ (zqg ?_ (zqg ?_ (zqg ?_ (zqg ?_ (zqg ?_ (zqg ?_ (zqg ?_ (zqg ?_ (zqg ?_ (zqg ?_ zqi))))))))))))))))
   ·refine StepO.intro rfl [] (by kernel_rfl) ?_;intro vs W hW0 hd K hK;have hW := zqw hW0;clear hd
    try simp only [putsD, Act.put, zqa, zqb, zqc, zqd, zqe, zqf] at hK ⊢
    go_simp
    exact hK.out _ _ (World.ownsRow_lit W #[] 0 hW.size (by decide) rfl) (rl_new rfl _ rfl)
   ·refine StepO.intro rfl [] (by kernel_rfl) ?_;intro vs W hW0 hd K hK;have hW := zqw hW0;clear hd
    try simp only [putsD, Act.put, zqa, zqb, zqc, zqd, zqe, zqf] at hK ⊢
    obtain ⟨m1, m2, m3, m4, m5, m6⟩ := HS.out W hW
    go_simp
    exact hK.out _ _ rfl (rl_same rfl rfl)
   ·refine StepO.intro rfl [(1, some 58)] (by kernel_rfl) ?_;intro vs W hW0 hd K hK;have hW := zqw hW0;have d1 : (vs 1) = .pointer (some ⟨b9, 0, none⟩) := hd 1 (by decide);clear hd
    try simp only [d1, putsD, Act.put, zqa, zqb, zqc, zqd, zqe, zqf] at hK ⊢
    obtain ⟨m1, m2, m3, m4, m5, m6⟩ := HS.out W hW
    go_simp
    exact hK.out _ _ rfl (rl_same rfl rfl)
   ·refine StepO.intro rfl [(0, some 57), (2, some 59)] (by kernel_rfl) ?_;intro vs W hW0 hd K hK;have hW := zqw hW0;have o0 : World.ownsRow W V6.heap.size 33 2 (vs 0) 0 [] := hd 0 (by decide);have d2 : (vs 2) = .slice (some ⟨g1, 0, none⟩) M c1 := hd 2 (by decide);clear hd
    try simp only [d2, putsD, Act.put, zqa, zqb, zqc, zqd, zqe, zqf] at hK ⊢
    obtain ⟨v', W', hrun, t1, t2, t3⟩ := app_rats W V6.heap.size hW.size (vs 0) _ _ o0 _ (.slice (some ⟨g1, 0, none⟩) M c1) _ _ (ownsBelow O1.out hW) (prsStr L _) (by have := HM.out; omega);refine wp_append rfl rfl rfl rfl hrun ?_;exact hK.out _ _ t1 (rl_app (by decide) rfl o0 t1 t2 t3)
   ·refine StepO.intro rfl [] (by kernel_rfl) ?_;intro vs W hW0 hd K hK;have hW := zqw hW0;clear hd
    try simp only [putsD, Act.put, zqa, zqb, zqc, zqd, zqe, zqf] at hK ⊢
    obtain ⟨m1, m2, m3, m4, m5, m6⟩ := HS.out W hW
    go_simp
    exact hK.out _ _ rfl (rl_same rfl rfl)
   ·refine StepO.intro rfl [(4, some 61)] (by kernel_rfl) ?_;intro vs W hW0 hd K hK;have hW := zqw hW0;have d4 : (vs 4) = .agg #[.string (natB a11), .string (natB a12)] := hd 4 (by decide);clear hd
    try simp only [d4, putsD, Act.put, zqa, zqb, zqc, zqd, zqe, zqf] at hK ⊢
    go_simp
    exact hK.out _ _ (World.ownsRow_lit W #[.string (natB a11), .string (natB a12)] 1 hW.size (by decide) rfl) (rl_new rfl _ rfl)
   ·refine StepO.intro rfl [(3, some 60), (5, some 62)] (by kernel_rfl) ?_;intro vs W hW0 hd K hK;have hW := zqw hW0;have o3 : World.ownsRow W V6.heap.size 33 2 (vs 3) (0 + M) ([] ++ ((List.range (M * 2)).map (prsF L))) := hd 3 (by decide);have o5 : World.ownsRow W V6.heap.size 33 2 (vs 5) 1 [.string (natB a11), .string (natB a12)] := hd 5 (by decide);clear hd
    try simp only [putsD, Act.put, zqa, zqb, zqc, zqd, zqe, zqf] at hK ⊢
    obtain ⟨v', W', hrun, t1, t2, t3⟩ := app_rats W V6.heap.size hW.size (vs 3) _ _ o3 _ ((vs 5)) _ _ (o5) (twoStr) (by have := HM.out; omega);refine wp_append rfl rfl rfl rfl hrun ?_;exact hK.out _ _ t1 (rl_app (by decide) rfl o3 t1 t2 t3)
   ·refine StepO.intro rfl [] (by kernel_rfl) ?_;intro vs W hW0 hd K hK;have hW := zqw hW0;clear hd
    try simp only [putsD, Act.put, zqa, zqb, zqc, zqd, zqe, zqf] at hK ⊢
    go_simp
    exact hK.out _ _ (World.ownsRow_lit W #[] 0 hW.size (by decide) rfl) (rl_new rfl _ rfl)
   ·refine StepO.intro rfl [] (by kernel_rfl) ?_;intro vs W hW0 hd K hK;have hW := zqw hW0;clear hd
    try simp only [putsD, Act.put, zqa, zqb, zqc, zqd, zqe, zqf] at hK ⊢
    obtain ⟨m1, m2, m3, m4, m5, m6⟩ := HS.out W hW
    go_simp
    exact hK.out _ _ rfl (rl_same rfl rfl)
   ·refine StepO.intro rfl [(8, some 65)] (by kernel_rfl) ?_;intro vs W hW0 hd K hK;have hW := zqw hW0;have d8 : (vs 8) = .pointer (some ⟨b9, 1, none⟩) := hd 8 (by decide);clear hd
    try simp only [d8, putsD, Act.put, zqa, zqb, zqc, zqd, zqe, zqf] at hK ⊢
    obtain ⟨m1, m2, m3, m4, m5, m6⟩ := HS.out W hW
    go_simp
    exact hK.out _ _ rfl (rl_same rfl rfl)
   ·refine StepO.intro rfl [(7, some 64), (9, some 66)] (by kernel_rfl) ?_;intro vs W hW0 hd K hK;have hW := zqw hW0;have o7 : World.ownsRow W V6.heap.size 33 2 (vs 7) 0 [] := hd 7 (by decide);have d9 : (vs 9) = .slice (some ⟨g2, 0, none⟩) M c2 := hd 9 (by decide);clear hd
    try simp only [d9, putsD, Act.put, zqa, zqb, zqc, zqd, zqe, zqf] at hK ⊢
    obtain ⟨v', W', hrun, t1, t2, t3⟩ := app_rats W V6.heap.size hW.size (vs 7) _ _ o7 _ (.slice (some ⟨g2, 0, none⟩) M c2) _ _ (ownsBelow O2.out hW) (prsStr H _) (by have := HM.out; omega);refine wp_append rfl rfl rfl rfl hrun ?_;exact hK.out _ _ t1 (rl_app (by decide) rfl o7 t1 t2 t3)
   ·refine StepO.intro rfl [] (by kernel_rfl) ?_;intro vs W hW0 hd K hK;have hW := zqw hW0;clear hd
    try simp only [putsD, Act.put, zqa, zqb, zqc, zqd, zqe, zqf] at hK ⊢
    obtain ⟨m1, m2, m3, m4, m5, m6⟩ := HS.out W hW
    go_simp
    exact hK.out _ _ rfl (rl_same rfl rfl)
   ·refine StepO.intro rfl [(11, some 68)] (by kernel_rfl) ?_;intro vs W hW0 hd K hK;have hW := zqw hW0;have d11 : (vs 11) = .agg #[.string (natB a21), .string (natB a22)] := hd 11 (by decide);clear hd
    try simp only [d11, putsD, Act.put, zqa, zqb, zqc, zqd, zqe, zqf] at hK ⊢
    go_simp
    exact hK.out _ _ (World.ownsRow_lit W #[.string (natB a21), .string (natB a22)] 1 hW.size (by decide) rfl) (rl_new rfl _ rfl)
   ·refine StepO.intro rfl [(10, some 67), (12, some 69)] (by kernel_rfl) ?_;intro vs W hW0 hd K hK;have hW := zqw hW0;have o10 : World.ownsRow W V6.heap.size 33 2 (vs 10) (0 + M) ([] ++ ((List.range (M * 2)).map (prsF H))) := hd 10 (by decide);have o12 : World.ownsRow W V6.heap.size 33 2 (vs 12) 1 [.string (natB a21), .string (natB a22)] := hd 12 (by decide);clear hd
    try simp only [putsD, Act.put, zqa, zqb, zqc, zqd, zqe, zqf] at hK ⊢
    obtain ⟨v', W', hrun, t1, t2, t3⟩ := app_rats W V6.heap.size hW.size (vs 10) _ _ o10 _ ((vs 12)) _ _ (o12) (twoStr) (by have := HM.out; omega);refine wp_append rfl rfl rfl rfl hrun ?_;exact hK.out _ _ t1 (rl_app (by decide) rfl o10 t1 t2 t3)
   ·refine StepO.intro rfl [(6, some 63), (13, some 70)] (by kernel_rfl) ?_;intro vs W hW0 hd K hK;have hW := zqw hW0;have o6 : World.ownsRow W V6.heap.size 33 2 (vs 6) ((0 + M) + 1) (([] ++ ((List.range (M * 2)).map (prsF L))) ++ [.string (natB a11), .string (natB a12)]) := hd 6 (by decide);have o13 : World.ownsRow W V6.heap.size 33 2 (vs 13) ((0 + M) + 1) (([] ++ ((List.range (M * 2)).map (prsF H))) ++ [.string (natB a21), .string (natB a22)]) := hd 13 (by decide);clear hd
    try simp only [putsD, Act.put, zqa, zqb, zqc, zqd, zqe, zqf] at hK ⊢
    obtain ⟨ga6, gc6, e6⟩ := owns_slice o6;obtain ⟨ga13, gc13, e13⟩ := owns_slice o13;simp only [Nat.zero_add] at e6 e13;simp only [e6, e13] at hK ⊢
    go_simp
    exact hK.out _ _ (show _ = Value.agg #[vs 6, vs 13] from by rw [e6, e13]) (rl_same rfl rfl)
   ·refine StepO.intro rfl [] (by kernel_rfl) ?_;intro vs W hW0 hd K hK;have hW := zqw hW0;clear hd
    try simp only [putsD, Act.put, zqa, zqb, zqc, zqd, zqe, zqf] at hK ⊢
    go_simp
    exact hK.out _ _ ⟨W.heap.size, rfl, hW.size, arrNew _ _ _ _ _ rfl rfl⟩ (rl_new rfl _ rfl)
   ·refine StepO.intro rfl [(15, some 15), (14, some 71), (6, some 63), (13, some 70)] (by kernel_rfl) ?_;intro vs W hW0 hd K hK;have hW := zqw hW0;obtain ⟨X15, d15, b15, r15⟩ : ∃ X, (vs 15) = .pointer (some ⟨X, 0, none⟩) ∧ V6.heap.size ≤ X ∧ World.rowIs W X 39 2 (arrF #[.slice none 0 0, .slice none 0 0]) := hd 15 (by decide);have d14 : (vs 14) = .agg #[vs 6, vs 13] := hd 14 (by decide);have o6 : World.ownsRow W V6.heap.size 33 2 (vs 6) ((0 + M) + 1) (([] ++ ((List.range (M * 2)).map (prsF L))) ++ [.string (natB a11), .string (natB a12)]) := hd 6 (by decide);have o13 : World.ownsRow W V6.heap.size 33 2 (vs 13) ((0 + M) + 1) (([] ++ ((List.range (M * 2)).map (prsF H))) ++ [.string (natB a21), .string (natB a22)]) := hd 13 (by decide);clear hd
    try simp only [d15, d14, putsD, Act.put, zqa, zqb, zqc, zqd, zqe, zqf] at hK ⊢
    have l15 := r15.lt;have y15_0 := r15.frozen 0;have k15_0 := r15.cell (i := 0) (by decide);have y15_1 := r15.frozen 1;have k15_1 := r15.cell (i := 1) (by decide);obtain ⟨ga6, gc6, e6⟩ := owns_slice o6;obtain ⟨ga13, gc13, e13⟩ := owns_slice o13;simp only [Nat.zero_add] at e6 e13;simp only [e6, e13] at hK ⊢
    go_simp
    exact hK.out (.pointer (some ⟨X15, 0, none⟩)) _ ⟨d15.symm, X15, rfl, b15, (show World.rowIs _ X15 39 2 (arrF #[vs 6, vs 13]) from by rw [e6, e13]; exact pairRow r15 _ _)⟩ (rl_store (by decide) (d15) rfl ((grown_set _ _ _ _).trans (grown_set _ _ _ _)) (by simp; exact r15.lt))
  obtain rfl : bs = [] := List.eq_nil_of_length_eq_zero hbs;refine FinO.intro [(0, some 57), (1, some 58), (2, some 59), (3, some 60), (4, some 61), (5, some 62), (6, some 63), (7, some 64), (8, some 65), (9, some 66), (10, some 67), (11, some 68), (12, some 69), (13, some 70), (14, some 71), (15, some 15), (16, none)] #[true, true, true, true, true, true, true, true, true, true, true, true, true, true, true, true, true] 0 (by kernel_rfl) (by kernel_rfl) (by kernel_rfl) ?_;intro vs Wf hI kf;have hW : Below V6.heap.size V6 Wf := zqx (belowDrewN (zqr _ _) 1) hI.bl (zqn _);have d1 : (vs 1) = .pointer (some ⟨b9, 0, none⟩) := hI.px 1 (by decide) (alive_of (by decide));have d2 : (vs 2) = .slice (some ⟨g1, 0, none⟩) M c1 := hI.px 2 (by decide) (alive_of (by decide));have d4 : (vs 4) = .agg #[.string (natB a11), .string (natB a12)] := hI.px 4 (by decide) (alive_of (by decide));have o5 : World.ownsRow Wf V6.heap.size 33 2 (vs 5) 1 [.string (natB a11), .string (natB a12)] := hI.px 5 (by decide) (alive_of (by decide));have o6 : World.ownsRow Wf V6.heap.size 33 2 (vs 6) ((0 + M) + 1) (([] ++ ((List.range (M * 2)).map (prsF L))) ++ [.string (natB a11), .string (natB a12)]) := hI.px 6 (by decide) (alive_of (by decide));have d8 : (vs 8) = .pointer (some ⟨b9, 1, none⟩) := hI.px 8 (by decide) (alive_of (by decide));have d9 : (vs 9) = .slice (some ⟨g2, 0, none⟩) M c2 := hI.px 9 (by decide) (alive_of (by decide));have d11 : (vs 11) = .agg #[.string (natB a21), .string (natB a22)] := hI.px 11 (by decide) (alive_of (by decide));have o12 : World.ownsRow Wf V6.heap.size 33 2 (vs 12) 1 [.string (natB a21), .string (natB a22)] := hI.px 12 (by decide) (alive_of (by decide));have o13 : World.ownsRow Wf V6.heap.size 33 2 (vs 13) ((0 + M) + 1) (([] ++ ((List.range (M * 2)).map (prsF H))) ++ [.string (natB a21), .string (natB a22)]) := hI.px 13 (by decide) (alive_of (by decide));have d14 : (vs 14) = .agg #[vs 6, vs 13] := hI.px 14 (by decide) (alive_of (by decide));obtain ⟨e16, X16, d16, b16, r16⟩ : (vs 16) = vs 15 ∧ ∃ X, (vs 16) = .pointer (some ⟨X, 0, none⟩) ∧ V6.heap.size ≤ X ∧ World.rowIs Wf X 39 2 (arrF #[vs 6, vs 13]) := hI.px 16 (by decide) (alive_of (by decide));have f16 : vs 15 = .pointer (some ⟨X16, 0, none⟩) := e16.symm.trans d16;obtain ⟨u5, hu5⟩ : ∃ u, vs 5 = u := ⟨_, rfl⟩;rw [hu5] at o5
  try rw [hu5] at r16
  obtain ⟨u6, hu6⟩ : ∃ u, vs 6 = u := ⟨_, rfl⟩;rw [hu6] at o6
  try rw [hu6] at r16
  obtain ⟨u12, hu12⟩ : ∃ u, vs 12 = u := ⟨_, rfl⟩;rw [hu12] at o12
  try rw [hu12] at r16
  obtain ⟨u13, hu13⟩ : ∃ u, vs 13 = u := ⟨_, rfl⟩;rw [hu13] at o13
  try rw [hu13] at r16
  clear hI
  try simp only [d1, d2, d4, d8, d9, d11, d14, d16, f16, hu5, hu6, hu12, hu13, putsD, Act.put, zqa, zqb, zqc, zqd, zqe, zqf]
  clear d1 d2 d4 d8 d9 d11 d14 d16 f16 hu5 hu6 hu12 hu13 e16;clear HS;refine wpAny_end (by kernel_rfl) ?_ _
  all_goals
   try go_wp2
   go_meet
   have p6 : Wf.ownsRow V6.heap.size 33 2 u6 (M + 1) ((List.range ((M + 1) * 2)).map (prsF (L ++ [(a11, a12)]))) := by
    rw [prs_more L (a11, a12) M HLL.out];have := o6;rwa [Nat.zero_add] at this
   have p13 : Wf.ownsRow V6.heap.size 33 2 u13 (M + 1) ((List.range ((M + 1) * 2)).map (prsF (H ++ [(a21, a22)]))) := by
    rw [prs_more H (a21, a22) M HHL.out];have := o13;rwa [Nat.zero_add] at this
   obtain ⟨ga, gc, rfl⟩ := owns_slice p6;obtain ⟨ha, hc, rfl⟩ := owns_slice p13;exact ⟨X16, ga, gc, ha, hc, rfl, r16, (ownsCap p6).1, (ownsCap p13).1, (ownsCap p6).2, (ownsCap p13).2, hW⟩
 case rest =>
 obtain ⟨b15, ga, gc, ha, hc, rfl, r15, m3, m4, rd3, rd4, hb7⟩ := hcut;clear O1 O2 HO1 HO2;have X7 := zqh ((X6.out.below hb7).add r15);have M3 := zqh m3;have M4 := zqh m4;have RD3 := zqh rd3;have RD4 := zqh rd4;clear r15 m3 m4 rd3 rd4 hb7 X6
 go_upto_region 8 with (fail)
 go_cut [16, 17] from 72 to 77 (fun p q wx => ∃ b16, p = .pointer (some ⟨b16, 0, none⟩) ∧ q = .int .i64 E ∧ Kp V1 [eRat b16 T2, eRat b14 (a21, a22), eRat b13 (a11, a12), eRat b10 T] wx)
 case first =>
  have hz := HS1.out _ X7.out.bl;have HZ := zqh hz;have s1 : World.cell? _ ⟨b12, 0, none⟩ = some (.int .i64 (N.n + 1)) := (X7.out.row 3 rfl).cell (i := 0) (by decide);have s2 : World.cell? _ ⟨b12, 1, none⟩ = some (.slice A N.l.length c) := (X7.out.row 3 rfl).cell (i := 1) (by decide);have s3 : World.cell? _ ⟨b15, 0, none⟩ = some (.slice ga (M + 1) gc) := (X7.out.row 0 rfl).cell (i := 0) (by decide);have s4 : World.cell? _ ⟨b15, 1, none⟩ = some (.slice ha (M + 1) hc) := (X7.out.row 0 rfl).cell (i := 1) (by decide);clear hz
  go_wp2_with (go_at_call 16; (with_reducible refine (HTW.out _ _ _ _ _ HZ.out.nt HZ.out.tb RD3.out RD4.out M3.out M4.out).mono ?_); rintro e w8 ⟨rfl, hb8⟩)
  all_goals
   go_meet
   have k8 := X7.out.below hb8;have k9 := (((Kp.none k8.bl).add (k8.row 4 rfl)).add (k8.row 2 rfl)).add (k8.row 1 rfl);exact ⟨w8.heap.size, rfl, rfl, Kp_same0 (k9.new _ _ w8.heap.size 2 rfl rfl) (ratF_arr T2.1 T2.2)⟩
 case rest =>
 obtain ⟨b16, rfl, rfl, hq⟩ := hcut;clear X7 M3 M4 RD3 RD4 HTW;obtain ⟨V8, rfl⟩ : ∃ V, V = wc := ⟨wc, rfl⟩;obtain ⟨t1, t2, t3, t4⟩ := (HS1.out _ hq.bl).cells;have X8 := zqh hq;clear hq;rcases HEE.out with h0 | h2
 case inr =>
  subst h2
  go_wp2_with (go_at_call 15; (with_reducible refine (works_any _ ((HS1.out _ X8.out.bl).tb)).mono ?_); rintro e w9 ⟨rfl, hb9⟩; have X9 := zqh (X8.out.below hb9))
  all_goals
   go_ret
   exact ⟨rfl, zqx BL1.out X9.out.bl BL1.out.size⟩
 case inl =>
  subst h0
  go_upto_region 11 with (fail)
  obtain ⟨u1, u2⟩ := T2;obtain ⟨tn, td⟩ := T;obtain ⟨sn, sd⟩ := S;obtain ⟨pn, pd⟩ := Pm
  go_cut [101] from 86 to 101 (fun p wx => p = .bool false ∧ Below V8.heap.size V8 wx)
  case first =>
   obtain ⟨s1, s2⟩ := ratCells (X8.out.row 0 rfl);obtain ⟨s3, s4⟩ := ratCells (X8.out.row 3 rfl);obtain ⟨s5, s6⟩ := ratCells (X8.out.row 2 rfl);obtain ⟨s7, s8⟩ := ratCells (X8.out.row 1 rfl);have gb16 := (X8.out.row 0 rfl).lt;have gb10 := (X8.out.row 3 rfl).lt;have gb13 := (X8.out.row 2 rfl).lt;have gb14 := (X8.out.row 1 rfl).lt;have HS : Hid (∀ W, Below V8.heap.size V8 W → W.cell? ⟨b16, 0, none⟩ = some (.string (natB u1)) ∧ W.cell? ⟨b16, 1, none⟩ = some (.string (natB u2)) ∧ W.cell? ⟨b10, 0, none⟩ = some (.string (natB tn)) ∧ W.cell? ⟨b10, 1, none⟩ = some (.string (natB td)) ∧ W.cell? ⟨b13, 0, none⟩ = some (.string (natB a11)) ∧ W.cell? ⟨b13, 1, none⟩ = some (.string (natB a12)) ∧ W.cell? ⟨b14, 0, none⟩ = some (.string (natB a21)) ∧ W.cell? ⟨b14, 1, none⟩ = some (.string (natB a22))) := zqh fun W hb => ⟨(hb.cell (p := ⟨b16, 0, none⟩) gb16).trans s1, (hb.cell (p := ⟨b16, 1, none⟩) gb16).trans s2, (hb.cell (p := ⟨b10, 0, none⟩) gb10).trans s3, (hb.cell (p := ⟨b10, 1, none⟩) gb10).trans s4, (hb.cell (p := ⟨b13, 0, none⟩) gb13).trans s5, (hb.cell (p := ⟨b13, 1, none⟩) gb13).trans s6, (hb.cell (p := ⟨b14, 0, none⟩) gb14).trans s7, (hb.cell (p := ⟨b14, 1, none⟩) gb14).trans s8⟩
   refine wp_region_props (n := _) (PX := [zqu (.int .i64 0),
      zqu (.bool false),
      zqu (.bool false),
      zqu (.int .i64 0),
      zqu (.bool false),
      zqu (.bool false),
      zqu (.bool false),
      zqu (.agg #[.string (natB u1), .string (natB u2)]),
      zqu (.agg #[.string (natB tn), .string (natB td)]),
      zqu (.agg #[.string (natB a11), .string (natB a12)]),
      zqu (.agg #[.string (natB a21), .string (natB a22)]),
      zqu (.agg #[.string (natB sn), .string (natB sd)]),
      zqu (.agg #[.string (natB pn), .string (natB pd)]),
      zqu (.bool true),
      zqu (.bool false),
      zqu (.bool false)])
     (AL := []) (DP := [[], [0], [1], [2], [2, 3], [2, 4], [5], [6], [6], [6], [6], [6, 9, 10], [6, 8, 11], [6, 7, 12], [6, 13], [6, 14]]) (L1 := [0, 1, 2, 3, 4, 5, 6, 7, 8, 9, 10, 11, 12, 13, 14, 15]) (ex := []) (by kernel_rfl) rfl (by kernel_rfl) ?_ ?_ (fin0 ?_)
   ·refine zqg ?_ (zqg ?_ (zqg ?_ (zqg ?_ (zqg ?_ (zqg ?_ (zqg ?_ (zqg ?_ (zqg ?_ (zqg ?_ (zqg ?_ (zqg ?_ (zqg ?_ (zqg ?_ (zqg ?_ (zqg ?_ zqi)))))))))))))))
    iterate 16 exact fun _ _ _ _ h _ => h
   ·refine zqg ?_ (zqg ?_ (zqg ?_ (zqg ?_ (zqg ?_ (zqg ?_ (zqg ?_ (zqg ?_ (zqg ?_ (zqg ?_ (zqg ?_ (zqg ?_ (zqg ?_ (zqg ?_ (zqg ?_ (zqg ?_ zqi)))))))))))))))
    ·refine zso rfl [] ?_;intro vs W hW hd K hK;clear hd
     try simp only [putsD, Act.put, zqa, zqb, zqc, zqd, zqe, zqf] at hK ⊢
     go_simp
     exact hK.out _ _ rfl (zqr _ _) (zqv rfl)
    ·refine zso rfl [(0, some 86)] ?_;intro vs W hW hd K hK;have d0 : vs 0 = .int .i64 0 := hd 0 (by decide);clear hd
     try simp only [d0, putsD, Act.put, zqa, zqb, zqc, zqd, zqe, zqf] at hK ⊢
     go_simp
     exact hK.out _ _ rfl (zqr _ _) (zqv rfl)
    ·refine zso rfl [(1, some 87)] ?_;intro vs W hW hd K hK;have d1 : vs 1 = .bool false := hd 1 (by decide);clear hd
     try simp only [d1, putsD, Act.put, zqa, zqb, zqc, zqd, zqe, zqf] at hK ⊢
     go_simp
     exact hK.out _ _ rfl (zqr _ _) (zqv rfl)
    ·refine zso rfl [(2, some 88)] ?_;intro vs W hW hd K hK;have d2 : vs 2 = .bool false := hd 2 (by decide);clear hd
     try simp only [d2, putsD, Act.put, zqa, zqb, zqc, zqd, zqe, zqf] at hK ⊢
     go_simp
     exact hK.out _ _ rfl (zqr _ _) (zqv rfl)
    ·refine zso rfl [(2, some 88), (3, some 89)] ?_;intro vs W hW hd K hK;have d2 : vs 2 = .bool false := hd 2 (by decide);have d3 : vs 3 = .int .i64 0 := hd 3 (by decide);clear hd
     try simp only [d2, d3, putsD, Act.put, zqa, zqb, zqc, zqd, zqe, zqf] at hK ⊢
     go_simp
     exact hK.out _ _ rfl (zqr _ _) (zqv rfl)
    ·refine zso rfl [(2, some 88), (4, some 90)] ?_;intro vs W hW hd K hK;have d2 : vs 2 = .bool false := hd 2 (by decide);have d4 : vs 4 = .bool false := hd 4 (by decide);clear hd
     try simp only [d2, d4, putsD, Act.put, zqa, zqb, zqc, zqd, zqe, zqf] at hK ⊢
     go_simp
     exact hK.out _ _ rfl (zqr _ _) (zqv rfl)
    ·refine zso rfl [(5, some 91)] ?_;intro vs W hW hd K hK;have d5 : vs 5 = .bool false := hd 5 (by decide);clear hd
     try simp only [d5, putsD, Act.put, zqa, zqb, zqc, zqd, zqe, zqf] at hK ⊢
     go_simp
     exact hK.out _ _ rfl (zqr _ _) (zqv rfl)
    ·refine zso rfl [(6, some 92)] ?_;intro vs W hW hd K hK;have d6 : vs 6 = .bool false := hd 6 (by decide);clear hd
     try simp only [d6, putsD, Act.put, zqa, zqb, zqc, zqd, zqe, zqf] at hK ⊢
     obtain ⟨m1, m2, m3, m4, m5, m6, m7, m8⟩ := HS.out W hW
     go_simp
     exact hK.out _ _ rfl (zqr _ _) (zqv rfl)
    ·refine zso rfl [(6, some 92)] ?_;intro vs W hW hd K hK;have d6 : vs 6 = .bool false := hd 6 (by decide);clear hd
     try simp only [d6, putsD, Act.put, zqa, zqb, zqc, zqd, zqe, zqf] at hK ⊢
     obtain ⟨m1, m2, m3, m4, m5, m6, m7, m8⟩ := HS.out W hW
     go_simp
     exact hK.out _ _ rfl (zqr _ _) (zqv rfl)
    ·refine zso rfl [(6, some 92)] ?_;intro vs W hW hd K hK;have d6 : vs 6 = .bool false := hd 6 (by decide);clear hd
     try simp only [d6, putsD, Act.put, zqa, zqb, zqc, zqd, zqe, zqf] at hK ⊢
     obtain ⟨m1, m2, m3, m4, m5, m6, m7, m8⟩ := HS.out W hW
     go_simp
     exact hK.out _ _ rfl (zqr _ _) (zqv rfl)
    ·refine zso rfl [(6, some 92)] ?_;intro vs W hW hd K hK;have d6 : vs 6 = .bool false := hd 6 (by decide);clear hd
     try simp only [d6, putsD, Act.put, zqa, zqb, zqc, zqd, zqe, zqf] at hK ⊢
     obtain ⟨m1, m2, m3, m4, m5, m6, m7, m8⟩ := HS.out W hW
     go_simp
     exact hK.out _ _ rfl (zqr _ _) (zqv rfl)
    ·refine zso rfl [(6, some 92), (9, some 95), (10, some 96)] ?_;intro vs W hW hd K hK;have d6 : vs 6 = .bool false := hd 6 (by decide);have d9 : vs 9 = .agg #[.string (natB a11), .string (natB a12)] := hd 9 (by decide);have d10 : vs 10 = .agg #[.string (natB a21), .string (natB a22)] := hd 10 (by decide);clear hd
     try simp only [d6, d9, d10, putsD, Act.put, zqa, zqb, zqc, zqd, zqe, zqf] at hK ⊢
     go_simp
     go_at_call 27
     (with_reducible first | refine (HAD.out _).mono ?_)
     rintro e w9 ⟨rfl, hb9⟩;exact hK.out _ _ (rfl) hb9 (fun h => absurd h (by decide))
    ·refine zso rfl [(6, some 92), (8, some 94), (11, some 97)] ?_;intro vs W hW hd K hK;have d6 : vs 6 = .bool false := hd 6 (by decide);have d8 : vs 8 = .agg #[.string (natB tn), .string (natB td)] := hd 8 (by decide);have d11 : vs 11 = .agg #[.string (natB sn), .string (natB sd)] := hd 11 (by decide);clear hd
     try simp only [d6, d8, d11, putsD, Act.put, zqa, zqb, zqc, zqd, zqe, zqf] at hK ⊢
     go_simp
     go_at_call 30
     (with_reducible first | refine (HMU.out _).mono ?_)
     rintro e w9 ⟨rfl, hb9⟩;exact hK.out _ _ (rfl) hb9 (fun h => absurd h (by decide))
    ·refine zso rfl [(6, some 92), (7, some 93), (12, some 98)] ?_;intro vs W hW hd K hK;have d6 : vs 6 = .bool false := hd 6 (by decide);have d7 : vs 7 = .agg #[.string (natB u1), .string (natB u2)] := hd 7 (by decide);have d12 : vs 12 = .agg #[.string (natB pn), .string (natB pd)] := hd 12 (by decide);clear hd
     try simp only [d6, d7, d12, putsD, Act.put, zqa, zqb, zqc, zqd, zqe, zqf] at hK ⊢
     go_simp
     go_at_call 26
     (with_reducible first | refine (HSM.out _).mono ?_)
     rintro e w9 ⟨rfl, hb9⟩;exact hK.out _ _ (rfl) hb9 (fun h => absurd h (by decide))
    ·refine zso rfl [(6, some 92), (13, some 99)] ?_;intro vs W hW hd K hK;have d6 : vs 6 = .bool false := hd 6 (by decide);have d13 : vs 13 = .bool true := hd 13 (by decide);clear hd
     try simp only [d6, d13, putsD, Act.put, zqa, zqb, zqc, zqd, zqe, zqf] at hK ⊢
     go_simp
     exact hK.out _ _ rfl (zqr _ _) (zqv rfl)
    ·refine zso rfl [(6, some 92), (14, some 100)] ?_;intro vs W hW hd K hK;have d6 : vs 6 = .bool false := hd 6 (by decide);have d14 : vs 14 = .bool false := hd 14 (by decide);clear hd
     try simp only [d6, d14, putsD, Act.put, zqa, zqb, zqc, zqd, zqe, zqf] at hK ⊢
     go_simp
     exact hK.out _ _ rfl (zqr _ _) (zqv rfl)
   refine FinOk.intro [(0, some 86), (1, some 87), (2, some 88), (3, some 89), (4, some 90), (5, some 91), (6, some 92), (7, some 93), (8, some 94), (9, some 95), (10, some 96), (11, some 97), (12, some 98), (13, some 99), (14, some 100), (15, some 101)] #[true, true, true, true, true, true, true, true, true, true, true, true, true, true, true, true] 0 (by kernel_rfl) (by kernel_rfl) (by kernel_rfl) ?_;intro vs Wf hW0 hd hbk hdis kf;have hW := zqw hW0;have d0 : vs 0 = .int .i64 0 := hd 0 (by decide);have d1 : vs 1 = .bool false := hd 1 (by decide);have d2 : vs 2 = .bool false := hd 2 (by decide);have d3 : vs 3 = .int .i64 0 := hd 3 (by decide);have d4 : vs 4 = .bool false := hd 4 (by decide);have d5 : vs 5 = .bool false := hd 5 (by decide);have d6 : vs 6 = .bool false := hd 6 (by decide);have d7 : vs 7 = .agg #[.string (natB u1), .string (natB u2)] := hd 7 (by decide);have d8 : vs 8 = .agg #[.string (natB tn), .string (natB td)] := hd 8 (by decide);have d9 : vs 9 = .agg #[.string (natB a11), .string (natB a12)] := hd 9 (by decide);have d10 : vs 10 = .agg #[.string (natB a21), .string (natB a22)] := hd 10 (by decide);have d11 : vs 11 = .agg #[.string (natB sn), .string (natB sd)] := hd 11 (by decide);have d12 : vs 12 = .agg #[.string (natB pn), .string (natB pd)] := hd 12 (by decide);have d13 : vs 13 = .bool true := hd 13 (by decide);have d14 : vs 14 = .bool false := hd 14 (by decide);have d15 : vs 15 = .bool false := hd 15 (by decide);clear hd hbk hdis hW0
   try simp only [d0, d1, d2, d3, d4, d5, d6, d7, d8, d9, d10, d11, d12, d13, d14, d15, putsD, Act.put, zqa, zqb, zqc, zqd, zqe, zqf]
   clear d0 d1 d2 d3 d4 d5 d6 d7 d8 d9 d10 d11 d12 d13 d14 d15 vs;clear HS;refine wpAny_end (by kernel_rfl) ?_ _
   all_goals
    try go_wp2
    go_meet
    exact ⟨rfl, hW⟩
  case rest =>
  obtain ⟨rfl, hb9⟩ := hcut;have X9 := zqh (X8.out.below hb9);clear hb9 X8 HAD HMU HSM t1 t2 t3 t4;obtain ⟨t1, t2, t3, t4⟩ := (HS1.out _ X9.out.bl).cells;by_cases hn0 : n = 0
  ·have hnz : (N.n == 0) = true := by have := HNN.out; rw [this, hn0]; rfl
   have hnz1 : N.n = 0 := by have := HNN.out; omega
   clear hn0
   go_wp2_with (go_at_call 15; (with_reducible refine (works_any _ ((HS1.out _ X9.out.bl).tb)).mono ?_); rintro e w9 ⟨rfl, hb9⟩; have X10 := zqh (X9.out.below hb9))
   all_goals
    go_ret
    exact ⟨rfl, zqx BL1.out X10.out.bl BL1.out.size⟩
  have hnz : (N.n == 0) = false := by have := HNN.out; rw [this]; simp; omega
  have hnz2 : ¬ N.n = 0 := by simpa using hnz
  have hxt := HXT.out;have hyt := HYT.out
  go_upto_region 15 with (fail)
  obtain ⟨y1, y2⟩ := Y
  go_cut [18] from 107 to 114 (fun p wx => ∃ b18, p = .pointer (some ⟨b18, 0, none⟩) ∧ V1.heap.size ≤ b18 ∧ Kp V1 [eRat b18 (y1, y2), eRat b10 (tn, td)] wx)
  case first =>
   go_wp2_with (go_at_call 29; (with_reducible refine (HO3.out _).mono ?_); rintro e w10 ⟨rfl, hb10⟩)
   all_goals
    go_meet
    have k9 := X9.out.below hb10;exact ⟨_, rfl, k9.bl.size, Kp_same0 (((Kp.none k9.bl).add (k9.row 3 rfl)).new _ _ w10.heap.size 2 rfl rfl) (ratF_arr y1 y2)⟩
  case rest =>
  obtain ⟨b18, rfl, hb18, hq⟩ := hcut;have B18 := zqh hb18;clear t1 t2 t3 t4 hb18 X9 hxt hyt HO3;obtain ⟨t1, t2, t3, t4⟩ := (HS1.out _ hq.bl).cells;have X10 := zqh hq;clear hq;obtain ⟨m, hm⟩ : ∃ m, pk % n = m := ⟨_, rfl⟩
  have hmn : m < n := by rw [← hm]; exact Nat.mod_lt _ (by omega)
  have hrem : ((pk : Int)).tmod N.n = (m : Int) := by have := HNN.out; rw [this, ← hm]; rfl
  have hcv : IntKind.i64.wrap (pk : Int) = (pk : Int) := by have := HPK.out; rw [IntKind.wrap_i64]; omega
  have hn128 : n ≤ 128 := by have := HN8.out; omega
  have had1 : IntKind.i64.wrap (1 + (m : Int)) = 1 + (m : Int) := by rw [IntKind.wrap_i64]; omega
  have HMM := zqh hmn;clear hm
  go_upto_region 16 with (fail)
  go_cut [19] from 115 to 121 (fun p wx => ∃ v : Nat, p = .int .i64 (v : Int) ∧ Hid (1 ≤ v ∧ v ≤ n) ∧ Kp V1 [eRat b18 (y1, y2), eRat b10 (tn, td)] wx)
  case first =>
   go_wp2
   go_meet
   exact ⟨m + 1, congrArg (Value.int .i64) (by omega), zqh ⟨by omega, by have := HMM.out; omega⟩, X10.out⟩
  case rest =>
  obtain ⟨v, rfl, HV, hq⟩ := hcut;obtain ⟨V9, rfl⟩ : ∃ V, V = wc := ⟨wc, rfl⟩;clear t1 t2 t3 t4 hrem hcv had1 X10 HMM hmn;have hv1 : 1 ≤ v := HV.out.1;have hv2 : v ≤ n := HV.out.2
  have hvM : v < M := by have := HMN.out; omega
  have X11 := zqh hq;obtain ⟨⟨r1, r2⟩, ⟨k1, k2⟩, ⟨x1, x2⟩, ⟨z1, z2⟩, hml, hmh, ht3, hmz, hs3⟩ := HFA.out v hv1 hv2 rfl;obtain ⟨⟨l1, l2⟩, hl⟩ : ∃ p, L.getD v (0, 0) = p := ⟨_, rfl⟩;obtain ⟨⟨h1, h2⟩, hh⟩ : ∃ p, H.getD v (0, 0) = p := ⟨_, rfl⟩;rw [hl] at hml;rw [hh] at hmh;have HM1 := zqh hml;have HM2 := zqh hmh;have HT3 := zqh ht3;have HMZ := zqh hmz;have HSZ := zqh hs3;have hqs := HS1.out _ hq.bl;have HQ9 := zqh hqs
  have hS8 : ∀ W, Below V9.heap.size V9 W → W.cell? ⟨b9, 0, none⟩ = some (.slice (some ⟨g1, 0, none⟩) M c1) ∧ W.cell? ⟨b9, 1, none⟩ = some (.slice (some ⟨g2, 0, none⟩) M c2) ∧ W.cell? ⟨g1, v * 2, none⟩ = some (.string (natB l1)) ∧ W.cell? ⟨g1, v * 2 + 1, none⟩ = some (.string (natB l2)) ∧ W.cell? ⟨g2, v * 2, none⟩ = some (.string (natB h1)) ∧ W.cell? ⟨g2, v * 2 + 1, none⟩ = some (.string (natB h2)) ∧ W.cell? ⟨b18, 0, none⟩ = some (.string (natB y1)) ∧ W.cell? ⟨b18, 1, none⟩ = some (.string (natB y2)) := fun W hb => by
   have d := hqs.below hb;have r := rowBelow (hq.row 0 rfl) hb;have d1 := d.w1.cells v hvM;have d2 := d.w2.cells v hvM;rw [hl] at d1;rw [hh] at d2;exact ⟨d.e2, d.e3, d1.1, d1.2.1, d2.1, d2.2.1, (ratCells r).1, (ratCells r).2⟩
  have HS8 := zqh hS8;have hm1 := M1.out;have hm2 := M2.out;clear hS8 hqs hq hml hmh ht3 hmz hs3 HFA hl hh
  go_upto_region 17 with (fail)
  go_cut [] from 122 to 143 (fun wx => ∃ W, Below V9.heap.size V9 W ∧ wx = (((W.setCell ⟨g1, v * 2, none⟩ (.string (natB r1))).setCell ⟨g1, v * 2 + 1, none⟩ (.string (natB r2))).setCell ⟨g2, v * 2, none⟩ (.string (natB k1))).setCell ⟨g2, v * 2 + 1, none⟩ (.string (natB k2)))
  case first =>
   have q6 : Below V9.heap.size V9 V9.drew := belowDrewN (zqr _ _) 1;obtain ⟨m1, m2, m3, m4, m5, m6, m7, m8⟩ := HS8.out _ q6;have ngl := NGL.out;have ngh := NGH.out;have hgh := NGG.out;have hhg := Ne.symm NGG.out;refine wp_region_heldG (fun (w' : World) => w'.cell? ⟨b9, 0, none⟩ = some (.slice (some ⟨g1, 0, none⟩) M c1) ∧ w'.cell? ⟨b9, 1, none⟩ = some (.slice (some ⟨g2, 0, none⟩) M c2) ∧ w'.cell? ⟨g1, v * 2, none⟩ = some (.string (natB l1)) ∧ w'.cell? ⟨g1, v * 2 + 1, none⟩ = some (.string (natB l2)) ∧ w'.cell? ⟨g2, v * 2, none⟩ = some (.string (natB h1)) ∧ w'.cell? ⟨g2, v * 2 + 1, none⟩ = some (.string (natB h2)) ∧ w'.cell? ⟨b18, 0, none⟩ = some (.string (natB y1)) ∧ w'.cell? ⟨b18, 1, none⟩ = some (.string (natB y2))) (fun (w' : World) => w'.cell? ⟨b9, 1, none⟩ = some (.slice (some ⟨g2, 0, none⟩) M c2)) 21 (by kernel_rfl) ⟨⟨m1, m2, m3, m4, m5, m6, m7, m8⟩, m2⟩ (fun hS => ?_);refine wpAnyG_take (i := 0) (v := ?_) hS (by kernel_rfl) rfl (by kernel_rfl) (by kernel_rfl) (fun _ _ _ h => h) (Or.inl ⟨by rfl, ?_⟩) ?_;rotate_left
   ·(intro w hSw; go_simp; try with_reducible rfl)
   try simp only [Act.put, zqa, zqb, zqc, zqd, zqe, zqf]
   refine wpAnyG_take (i := 1) (v := ?_) hS (by kernel_rfl) rfl (by kernel_rfl) (by kernel_rfl) (fun _ _ _ h => h) (Or.inl ⟨by rfl, ?_⟩) ?_;rotate_left
   ·(intro w hSw; go_simp; try with_reducible rfl)
   try simp only [Act.put, zqa, zqb, zqc, zqd, zqe, zqf]
   refine wpAnyG_take (i := 2) (v := ?_) hS (by kernel_rfl) rfl (by kernel_rfl) (by kernel_rfl) (fun _ _ _ h => h) (Or.inl ⟨by rfl, ?_⟩) ?_;rotate_left
   ·(intro w hSw; go_simp; try with_reducible rfl)
   try simp only [Act.put, zqa, zqb, zqc, zqd, zqe, zqf]
   refine wpAnyG_take0 (i := 3) (v := ?_) hS (by kernel_rfl) rfl (by kernel_rfl) (by kernel_rfl) (fun _ _ _ h => h) (Or.inl ⟨by rfl, ?_⟩) ?_;rotate_left
   ·(intro w hSw; go_simp; try with_reducible rfl)
   try simp only [Act.put, zqa, zqb, zqc, zqd, zqe, zqf]
   refine wpAnyG_take0 (i := 4) (v := ?_) hS (by kernel_rfl) rfl (by kernel_rfl) (by kernel_rfl) (fun _ _ _ h => h) (Or.inl ⟨by rfl, ?_⟩) ?_;rotate_left
   ·(intro w hSw; go_simp; try with_reducible rfl)
   try simp only [Act.put, zqa, zqb, zqc, zqd, zqe, zqf]
   refine wpAnyG_take0 (i := 5) (v := ?_) hS (by kernel_rfl) rfl (by kernel_rfl) (by kernel_rfl) (fun _ _ _ h => h) (Or.inl ⟨by rfl, ?_⟩) ?_;rotate_left
   ·(intro w hSw; go_simp; try with_reducible rfl)
   try simp only [Act.put, zqa, zqb, zqc, zqd, zqe, zqf]
   refine wpAnyG_take (i := 6) (v := ?_) hS (by kernel_rfl) rfl (by kernel_rfl) (by kernel_rfl) (fun _ _ _ h => h) (Or.inl ⟨by rfl, ?_⟩) ?_;rotate_left
   ·(intro w hSw; go_simp; try with_reducible rfl)
   try simp only [Act.put, zqa, zqb, zqc, zqd, zqe, zqf]
   refine wpAnyG_take (i := 7) (v := ?_) hS (by kernel_rfl) rfl (by kernel_rfl) (by kernel_rfl) (fun _ _ _ h => h) (Or.inl ⟨by rfl, ?_⟩) ?_;rotate_left
   ·(intro w hSw; go_simp; try with_reducible rfl)
   try simp only [Act.put, zqa, zqb, zqc, zqd, zqe, zqf]
   refine wpAnyG_take (i := 8) (v := ?_) hS (by kernel_rfl) rfl (by kernel_rfl) (by kernel_rfl) (fun _ _ _ h => h) (Or.inl ⟨by rfl, ?_⟩) ?_;rotate_left
   ·(intro w hSw; go_simp; try with_reducible rfl)
   try simp only [Act.put, zqa, zqb, zqc, zqd, zqe, zqf]
   refine wpAnyG_take (i := 9) (v := ?_) hS (by kernel_rfl) rfl (by kernel_rfl) (by kernel_rfl) (fun _ _ _ h => h) (Or.inl ⟨by rfl, ?_⟩) ?_;rotate_left
   ·(intro w hSw; go_simp; try with_reducible rfl)
   try simp only [Act.put, zqa, zqb, zqc, zqd, zqe, zqf]
   refine wpAnyG_take (i := 10) (v := ?_) hS (by kernel_rfl) rfl (by kernel_rfl) (by kernel_rfl) (fun _ _ _ h => h) (Or.inl ⟨by rfl, ?_⟩) ?_;rotate_left
   ·(intro w hSw; go_simp; try with_reducible rfl)
   try simp only [Act.put, zqa, zqb, zqc, zqd, zqe, zqf]
   refine wpAnyG_take (i := 11) (v := ?_) hS (by kernel_rfl) rfl (by kernel_rfl) (by kernel_rfl) (fun _ _ _ h => h) (Or.inl ⟨by rfl, ?_⟩) ?_;rotate_left
   ·(intro w hSw; go_simp; try with_reducible rfl)
   try simp only [Act.put, zqa, zqb, zqc, zqd, zqe, zqf]
   refine wpAnyG_take (i := 13) (v := ?_) hS (by kernel_rfl) rfl (by kernel_rfl) (by kernel_rfl) (fun _ _ _ h => h) (Or.inl ⟨by rfl, ?_⟩) ?_;rotate_left
   ·(intro w hSw; go_simp; try with_reducible rfl)
   try simp only [Act.put, zqa, zqb, zqc, zqd, zqe, zqf]
   refine wpAnyG_take (i := 14) (v := ?_) hS (by kernel_rfl) rfl (by kernel_rfl) (by kernel_rfl) (fun _ _ _ h => h) (Or.inl ⟨by rfl, ?_⟩) ?_;rotate_left
   ·(intro w hSw; go_simp; try with_reducible rfl)
   try simp only [Act.put, zqa, zqb, zqc, zqd, zqe, zqf]
   refine wpAnyG_take (i := 15) (v := ?_) hS (by kernel_rfl) rfl (by kernel_rfl) (by kernel_rfl) (fun _ _ _ h => h) (Or.inl ⟨by rfl, ?_⟩) ?_;rotate_left
   ·(intro w hSw; go_simp; try with_reducible rfl)
   try simp only [Act.put, zqa, zqb, zqc, zqd, zqe, zqf]
   refine wpAnyG_take (i := 16) (v := ?_) hS (by kernel_rfl) rfl (by kernel_rfl) (by kernel_rfl) (fun _ _ _ h => h) (Or.inl ⟨by rfl, ?_⟩) ?_;rotate_left
   ·(intro w hSw; go_simp; try with_reducible rfl)
   try simp only [Act.put, zqa, zqb, zqc, zqd, zqe, zqf]
   refine wpAnyG_take (i := 17) (v := ?_) hS (by kernel_rfl) rfl (by kernel_rfl) (by kernel_rfl) (fun _ _ _ h => h) (Or.inl ⟨by rfl, ?_⟩) ?_;rotate_left
   ·(intro w hSw; go_simp; try with_reducible rfl)
   try simp only [Act.put, zqa, zqb, zqc, zqd, zqe, zqf]
   refine wpAnyG_take (i := 18) (v := ?_) hS (by kernel_rfl) rfl (by kernel_rfl) (by kernel_rfl) (fun _ _ _ h => h) (Or.inl ⟨by rfl, ?_⟩) ?_;rotate_left
   ·(intro w hSw; go_simp; try with_reducible rfl)
   try simp only [Act.put, zqa, zqb, zqc, zqd, zqe, zqf]
   refine wpAnyG_one 12 (by kernel_rfl) rfl (fun K hK => ?_)
   go_simp
   go_at_call 30
   (with_reducible refine (HM1.out _).mono ?_)
   rintro e w8 ⟨rfl, hb8⟩;replace q6 := zqx q6 hb8 q6.size;clear hb8;obtain ⟨m1, m2, m3, m4, m5, m6, m7, m8⟩ := HS8.out _ q6;refine hK.out _ _ ⟨fun _ => ⟨m1, m2, m3, m4, m5, m6, m7, m8⟩, m2⟩ ?_;replace hS : (fun (w' : World) => w'.cell? ⟨b9, 0, none⟩ = some (.slice (some ⟨g1, 0, none⟩) M c1) ∧ w'.cell? ⟨b9, 1, none⟩ = some (.slice (some ⟨g2, 0, none⟩) M c2) ∧ w'.cell? ⟨g1, v * 2, none⟩ = some (.string (natB l1)) ∧ w'.cell? ⟨g1, v * 2 + 1, none⟩ = some (.string (natB l2)) ∧ w'.cell? ⟨g2, v * 2, none⟩ = some (.string (natB h1)) ∧ w'.cell? ⟨g2, v * 2 + 1, none⟩ = some (.string (natB h2)) ∧ w'.cell? ⟨b18, 0, none⟩ = some (.string (natB y1)) ∧ w'.cell? ⟨b18, 1, none⟩ = some (.string (natB y2))) _ ∧ (fun (w' : World) => w'.cell? ⟨b9, 1, none⟩ = some (.slice (some ⟨g2, 0, none⟩) M c2)) _ := ⟨⟨m1, m2, m3, m4, m5, m6, m7, m8⟩, m2⟩;clear hK K
   try simp only [Act.put, zqa, zqb, zqc, zqd, zqe, zqf]
   refine wpAnyG_one 19 (by kernel_rfl) rfl (fun K hK => ?_)
   go_simp
   go_at_call 30
   (with_reducible refine (HM2.out _).mono ?_)
   rintro e w9 ⟨rfl, hb8⟩;replace q6 := zqx q6 hb8 q6.size;clear hb8;obtain ⟨m1, m2, m3, m4, m5, m6, m7, m8⟩ := HS8.out _ q6;obtain ⟨_, _, y5, y6⟩ := (HQ9.out.below q6).w1.cells v hvM;obtain ⟨_, _, y7, y8⟩ := (HQ9.out.below q6).w2.cells v hvM;refine hK.out _ _ ⟨fun _ => ⟨m1, m2, m3, m4, m5, m6, m7, m8⟩, m2⟩ ?_;replace hS : (fun (w' : World) => w'.cell? ⟨b9, 0, none⟩ = some (.slice (some ⟨g1, 0, none⟩) M c1) ∧ w'.cell? ⟨b9, 1, none⟩ = some (.slice (some ⟨g2, 0, none⟩) M c2) ∧ w'.cell? ⟨g1, v * 2, none⟩ = some (.string (natB l1)) ∧ w'.cell? ⟨g1, v * 2 + 1, none⟩ = some (.string (natB l2)) ∧ w'.cell? ⟨g2, v * 2, none⟩ = some (.string (natB h1)) ∧ w'.cell? ⟨g2, v * 2 + 1, none⟩ = some (.string (natB h2)) ∧ w'.cell? ⟨b18, 0, none⟩ = some (.string (natB y1)) ∧ w'.cell? ⟨b18, 1, none⟩ = some (.string (natB y2))) _ ∧ (fun (w' : World) => w'.cell? ⟨b9, 1, none⟩ = some (.slice (some ⟨g2, 0, none⟩) M c2)) _ := ⟨⟨m1, m2, m3, m4, m5, m6, m7, m8⟩, m2⟩;clear hK K
   try simp only [Act.put, zqa, zqb, zqc, zqd, zqe, zqf]
   refine wpAnyG_take (i := 20) (v := ?_) hS (by kernel_rfl) rfl (by kernel_rfl) (by kernel_rfl) (fun _ _ _ h => h) (Or.inl ⟨by rfl, ?_⟩) ?_;rotate_left
   ·(intro w hSw; go_simp; try with_reducible rfl)
   try simp only [Act.put, zqa, zqb, zqc, zqd, zqe, zqf]
   refine wpAnyG_one 21 (by kernel_rfl) rfl (fun K hK => ?_)
   go_simp
   refine hK.out _ _ ⟨fun h => absurd h (by decide +kernel), (World.cell?_setCell_far _ _ _ _ ngl).trans ((World.cell?_setCell_far _ _ _ _ ngl).trans (m2))⟩ ?_;clear hK K
   try simp only [Act.put, zqa, zqb, zqc, zqd, zqe, zqf]
   refine wpAnyG_one 22 (by kernel_rfl) rfl (fun K hK => ?_)
   go_simp
   refine hK.out _ _ ⟨fun h => absurd h (by decide +kernel), (World.cell?_setCell_far _ _ _ _ ngl).trans ((World.cell?_setCell_far _ _ _ _ ngl).trans (m2))⟩ ?_;clear hK K
   try simp only [Act.put, zqa, zqb, zqc, zqd, zqe, zqf]
   refine wpAnyG_one 23 (by kernel_rfl) rfl (fun K hK => ?_)
   go_simp
   refine hK.out _ _ ⟨fun h => absurd h (by decide +kernel), (World.cell?_setCell_far _ _ _ _ ngh).trans ((World.cell?_setCell_far _ _ _ _ ngh).trans ((World.cell?_setCell_far _ _ _ _ ngl).trans ((World.cell?_setCell_far _ _ _ _ ngl).trans (m2))))⟩ ?_;clear hK K
   try simp only [Act.put, zqa, zqb, zqc, zqd, zqe, zqf]
   refine wpAnyG_done (by kernel_rfl) ?_ _
   all_goals
    try go_wp2
    go_meet
    exact ⟨_, q6, rfl⟩
  case rest =>
  obtain ⟨W, hbW, rfl⟩ := hcut;have n1 := NA1.out;have n2 := NA2.out;have n3 := NGL.out;have n4 := NGH.out;have n5 := NGG.out
  have n6 : g1 ≠ b10 := by have := GL1.out; have := B10.out; omega
  have n7 : g2 ≠ b10 := by have := GL2.out; have := B10.out; omega
  have n8 : g1 ≠ b18 := by have := GL1.out; have := B18.out; omega
  have n9 : g2 ≠ b18 := by have := GL2.out; have := B18.out; omega
  have hqw := HQ9.out.below hbW;have hkw := X11.out.below hbW;have bz := four_bl (zqx BL1.out hkw.bl BL1.out.size) BW1.out BW2.out (v * 2) (v * 2 + 1) (v * 2) (v * 2 + 1) (.string (natB r1)) (.string (natB r2)) (.string (natB k1)) (.string (natB k2));have z10 := four_row (hkw.row 1 rfl) (Ne.symm n6) (Ne.symm n7) (v * 2) (v * 2 + 1) (v * 2) (v * 2 + 1) (.string (natB r1)) (.string (natB r2)) (.string (natB k1)) (.string (natB k2));have z18 := four_row (hkw.row 0 rfl) (Ne.symm n8) (Ne.symm n9) (v * 2) (v * 2 + 1) (v * 2) (v * 2 + 1) (.string (natB r1)) (.string (natB r2)) (.string (natB k1)) (.string (natB k2))
  have zq : QnS N A c w.heap.size b9 g1 c1 g2 c2 M (L.set v (r1, r2)) (H.set v (k1, k2)) _ := ⟨four_cell hqw.e0 (Ne.symm n1) (Ne.symm n2) (v * 2) (v * 2 + 1) (v * 2) (v * 2 + 1) (.string (natB r1)) (.string (natB r2)) (.string (natB k1)) (.string (natB k2)),
   four_cell hqw.e1 (Ne.symm n1) (Ne.symm n2) _ _ _ _ _ _ _ _, four_cell hqw.e2 n3 n4 _ _ _ _ _ _ _ _, four_cell hqw.e3 n3 n4 _ _ _ _ _ _ _ _, (HN.out.below bz).more bz.size,
   ((hqw.w1.set (r1, r2) v hvM HLL.out).other n5 _ _).other n5 _ _, ((hqw.w2.other (Ne.symm n5) _ _).other (Ne.symm n5) _ _).set (k1, k2) v hvM HHL.out, HT.out.below bz⟩
  obtain ⟨V10, hV10⟩ : ∃ V, (((W.setCell ⟨g1, v * 2, none⟩ (.string (natB r1))).setCell ⟨g1, v * 2 + 1, none⟩ (.string (natB r2))).setCell ⟨g2, v * 2, none⟩ (.string (natB k1))).setCell ⟨g2, v * 2 + 1, none⟩ (.string (natB k2)) = V := ⟨_, rfl⟩;rw [hV10] at bz z10 z18 zq ⊢;have BZ := zqh bz;have HS2 := zqh (fun W (hb : Below V10.heap.size V10 W) => zq.below hb);have X12 := zqh (((Kp.nil V10).add z10).add z18);obtain ⟨t1, t2, t3, t4⟩ := zq.cells;clear hV10 bz z10 z18 zq hqw hkw hbW n1 n2 n3 n4 n5 n6 n7 n8 n9 X11 HQ9 HS8 HS1 hm1 hm2 HM1 HM2 hv1 hv2 hvM
  go_upto_region 18 with (fail)
  go_cut [20, 21] from 144 to 150 (fun p q wx => ∃ b20, p = .pointer (some ⟨b20, 0, none⟩) ∧ q = .int .i64 0 ∧ Kp V10 [eRat b20 (x1, x2), eRat b18 (y1, y2), eRat b10 (tn, td)] wx)
  case first =>
   have HZ := zqh (HS2.out _ X12.out.bl)
   go_wp2_with (go_at_call 16; (with_reducible refine (HT3.out _ _ _ _ _ HZ.out.nt HZ.out.tb HZ.out.w1.rd HZ.out.w2.rd M1.out M2.out).mono ?_); rintro e w12 ⟨rfl, hb12⟩)
   all_goals
    go_meet
    exact ⟨w12.heap.size, rfl, rfl, Kp_same0 ((X12.out.below hb12).new _ _ w12.heap.size 2 rfl rfl) (ratF_arr x1 x2)⟩
  case rest =>
  obtain ⟨b20, rfl, rfl, hq⟩ := hcut;obtain ⟨V11, rfl⟩ : ∃ V, V = wc := ⟨wc, rfl⟩;clear t1 t2 t3 t4 X12;have X13 := zqh hq;have HTB := zqh (fun W (hW : Below V11.heap.size V11 W) => (HS2.out W (zqx hq.bl hW hq.bl.size)).tb)
  go_upto_region 19 with (fail)
  obtain ⟨s1, s2⟩ := ratCells (hq.row 0 rfl);obtain ⟨s3, s4⟩ := ratCells (hq.row 2 rfl);obtain ⟨s5, s6⟩ := ratCells (hq.row 1 rfl);have gb20 := (hq.row 0 rfl).lt;have gb10 := (hq.row 2 rfl).lt;have gb18 := (hq.row 1 rfl).lt;clear hq;have HS : Hid (∀ W, Below V11.heap.size V11 W → W.cell? ⟨b20, 0, none⟩ = some (.string (natB x1)) ∧ W.cell? ⟨b20, 1, none⟩ = some (.string (natB x2)) ∧ W.cell? ⟨b10, 0, none⟩ = some (.string (natB tn)) ∧ W.cell? ⟨b10, 1, none⟩ = some (.string (natB td)) ∧ W.cell? ⟨b18, 0, none⟩ = some (.string (natB y1)) ∧ W.cell? ⟨b18, 1, none⟩ = some (.string (natB y2))) := zqh fun W hb => ⟨(hb.cell (p := ⟨b20, 0, none⟩) gb20).trans s1, (hb.cell (p := ⟨b20, 1, none⟩) gb20).trans s2, (hb.cell (p := ⟨b10, 0, none⟩) gb10).trans s3, (hb.cell (p := ⟨b10, 1, none⟩) gb10).trans s4, (hb.cell (p := ⟨b18, 0, none⟩) gb18).trans s5, (hb.cell (p := ⟨b18, 1, none⟩) gb18).trans s6⟩
  refine wp_region_props (n := _) (PX := [zqu (.int .i64 0),
     zqu (.bool true),
     zqu (.bool true),
     zqu (.agg #[.string (natB x1), .string (natB x2)]),
     zqu (.agg #[.string (natB tn), .string (natB td)]),
     zqu (.agg #[.string (natB y1), .string (natB y2)]),
     zqu (.agg #[.string (natB z1), .string (natB z2)]),
     zqu (.bool true),
     zqu (.bool true),
     zqu (.bool true),
     zqu (.bool true),
     zqu (.bool true),
     zqu (.bool true)])
    (AL := []) (DP := [[], [0], [1], [2], [2], [2], [2, 4, 5], [2, 3, 6], [2, 7], [8], [9], [9, 10], [11]]) (L1 := [0, 1, 2, 3, 4, 5, 6, 7, 8, 9, 10, 11, 12]) (ex := []) (by kernel_rfl) rfl (by kernel_rfl) ?_ ?_ (fin0 ?_)
  ·refine zqg ?_ (zqg ?_ (zqg ?_ (zqg ?_ (zqg ?_ (zqg ?_ (zqg ?_ (zqg ?_ (zqg ?_ (zqg ?_ (zqg ?_ (zqg ?_ (zqg ?_ zqi))))))))))))
   iterate 13 exact fun _ _ _ _ h _ => h
  ·refine zqg ?_ (zqg ?_ (zqg ?_ (zqg ?_ (zqg ?_ (zqg ?_ (zqg ?_ (zqg ?_ (zqg ?_ (zqg ?_ (zqg ?_ (zqg ?_ (zqg ?_ zqi))))))))))))
   ·refine zso rfl [] ?_;intro vs W hW hd K hK;clear hd
    try simp only [putsD, Act.put, zqa, zqb, zqc, zqd, zqe, zqf] at hK ⊢
    go_simp
    exact hK.out _ _ rfl (zqr _ _) (zqv rfl)
   ·refine zso rfl [(0, some 151)] ?_;intro vs W hW hd K hK;have d0 : vs 0 = .int .i64 0 := hd 0 (by decide);clear hd
    try simp only [d0, putsD, Act.put, zqa, zqb, zqc, zqd, zqe, zqf] at hK ⊢
    go_simp
    exact hK.out _ _ rfl (zqr _ _) (zqv rfl)
   ·refine zso rfl [(1, some 152)] ?_;intro vs W hW hd K hK;have d1 : vs 1 = .bool true := hd 1 (by decide);clear hd
    try simp only [d1, putsD, Act.put, zqa, zqb, zqc, zqd, zqe, zqf] at hK ⊢
    go_simp
    exact hK.out _ _ rfl (zqr _ _) (zqv rfl)
   ·refine zso rfl [(2, some 153)] ?_;intro vs W hW hd K hK;have d2 : vs 2 = .bool true := hd 2 (by decide);clear hd
    try simp only [d2, putsD, Act.put, zqa, zqb, zqc, zqd, zqe, zqf] at hK ⊢
    obtain ⟨m1, m2, m3, m4, m5, m6⟩ := HS.out W hW
    go_simp
    exact hK.out _ _ rfl (zqr _ _) (zqv rfl)
   ·refine zso rfl [(2, some 153)] ?_;intro vs W hW hd K hK;have d2 : vs 2 = .bool true := hd 2 (by decide);clear hd
    try simp only [d2, putsD, Act.put, zqa, zqb, zqc, zqd, zqe, zqf] at hK ⊢
    obtain ⟨m1, m2, m3, m4, m5, m6⟩ := HS.out W hW
    go_simp
    exact hK.out _ _ rfl (zqr _ _) (zqv rfl)
   ·refine zso rfl [(2, some 153)] ?_;intro vs W hW hd K hK;have d2 : vs 2 = .bool true := hd 2 (by decide);clear hd
    try simp only [d2, putsD, Act.put, zqa, zqb, zqc, zqd, zqe, zqf] at hK ⊢
    obtain ⟨m1, m2, m3, m4, m5, m6⟩ := HS.out W hW
    go_simp
    exact hK.out _ _ rfl (zqr _ _) (zqv rfl)
   ·refine zso rfl [(2, some 153), (4, some 155), (5, some 156)] ?_;intro vs W hW hd K hK;have d2 : vs 2 = .bool true := hd 2 (by decide);have d4 : vs 4 = .agg #[.string (natB tn), .string (natB td)] := hd 4 (by decide);have d5 : vs 5 = .agg #[.string (natB y1), .string (natB y2)] := hd 5 (by decide);clear hd
    try simp only [d2, d4, d5, putsD, Act.put, zqa, zqb, zqc, zqd, zqe, zqf] at hK ⊢
    go_simp
    go_at_call 30
    (with_reducible first | refine (HMZ.out _).mono ?_)
    rintro e w9 ⟨rfl, hb9⟩;exact hK.out _ _ (rfl) hb9 (fun h => absurd h (by decide))
   ·refine zso rfl [(2, some 153), (3, some 154), (6, some 157)] ?_;intro vs W hW hd K hK;have d2 : vs 2 = .bool true := hd 2 (by decide);have d3 : vs 3 = .agg #[.string (natB x1), .string (natB x2)] := hd 3 (by decide);have d6 : vs 6 = .agg #[.string (natB z1), .string (natB z2)] := hd 6 (by decide);clear hd
    try simp only [d2, d3, d6, putsD, Act.put, zqa, zqb, zqc, zqd, zqe, zqf] at hK ⊢
    go_simp
    go_at_call 26
    (with_reducible first | refine (HSZ.out _).mono ?_)
    rintro e w9 ⟨rfl, hb9⟩;exact hK.out _ _ (rfl) hb9 (fun h => absurd h (by decide))
   ·refine zso rfl [(2, some 153), (7, some 158)] ?_;intro vs W hW hd K hK;have d2 : vs 2 = .bool true := hd 2 (by decide);have d7 : vs 7 = .bool true := hd 7 (by decide);clear hd
    try simp only [d2, d7, putsD, Act.put, zqa, zqb, zqc, zqd, zqe, zqf] at hK ⊢
    go_simp
    exact hK.out _ _ rfl (zqr _ _) (zqv rfl)
   ·refine zso rfl [(8, some 159)] ?_;intro vs W hW hd K hK;have d8 : vs 8 = .bool true := hd 8 (by decide);clear hd
    try simp only [d8, putsD, Act.put, zqa, zqb, zqc, zqd, zqe, zqf] at hK ⊢
    go_simp
    exact hK.out _ _ rfl (zqr _ _) (zqv rfl)
   ·refine zso rfl [(9, some 160)] ?_;intro vs W hW hd K hK;have d9 : vs 9 = .bool true := hd 9 (by decide);clear hd
    try simp only [d9, putsD, Act.put, zqa, zqb, zqc, zqd, zqe, zqf] at hK ⊢
    go_simp
    go_at_call 15
    (with_reducible first | refine (works_any _ (HTB.out _ hW)).mono ?_)
    rintro e w9 ⟨rfl, hb9⟩;exact hK.out _ _ (rfl) hb9 (fun h => absurd h (by decide))
   ·refine zso rfl [(9, some 160), (10, some 161)] ?_;intro vs W hW hd K hK;have d9 : vs 9 = .bool true := hd 9 (by decide);have d10 : vs 10 = .bool true := hd 10 (by decide);clear hd
    try simp only [d9, d10, putsD, Act.put, zqa, zqb, zqc, zqd, zqe, zqf] at hK ⊢
    go_simp
    exact hK.out _ _ rfl (zqr _ _) (zqv rfl)
   ·refine zso rfl [(11, some 162)] ?_;intro vs W hW hd K hK;have d11 : vs 11 = .bool true := hd 11 (by decide);clear hd
    try simp only [d11, putsD, Act.put, zqa, zqb, zqc, zqd, zqe, zqf] at hK ⊢
    go_simp
    exact hK.out _ _ rfl (zqr _ _) (zqv rfl)
  refine FinOk.intro [(0, some 151), (1, some 152), (2, some 153), (3, some 154), (4, some 155), (5, some 156), (6, some 157), (7, some 158), (8, some 159), (9, some 160), (10, some 161), (11, some 162), (12, some 8)] #[true, true, true, true, true, true, true, true, true, true, true, true, true] 0 (by kernel_rfl) (by kernel_rfl) (by kernel_rfl) ?_;intro vs Wf hW0 hd hbk hdis kf;have hW := zqw hW0;have d0 : vs 0 = .int .i64 0 := hd 0 (by decide);have d1 : vs 1 = .bool true := hd 1 (by decide);have d2 : vs 2 = .bool true := hd 2 (by decide);have d3 : vs 3 = .agg #[.string (natB x1), .string (natB x2)] := hd 3 (by decide);have d4 : vs 4 = .agg #[.string (natB tn), .string (natB td)] := hd 4 (by decide);have d5 : vs 5 = .agg #[.string (natB y1), .string (natB y2)] := hd 5 (by decide);have d6 : vs 6 = .agg #[.string (natB z1), .string (natB z2)] := hd 6 (by decide);have d7 : vs 7 = .bool true := hd 7 (by decide);have d8 : vs 8 = .bool true := hd 8 (by decide);have d9 : vs 9 = .bool true := hd 9 (by decide);have d10 : vs 10 = .bool true := hd 10 (by decide);have d11 : vs 11 = .bool true := hd 11 (by decide);have d12 : vs 12 = .bool true := hd 12 (by decide);clear hd hbk hdis hW0
  try simp only [d0, d1, d2, d3, d4, d5, d6, d7, d8, d9, d10, d11, d12, putsD, Act.put, zqa, zqb, zqc, zqd, zqe, zqf]
  clear d0 d1 d2 d3 d4 d5 d6 d7 d8 d9 d10 d11 d12 vs;clear HS;refine wpAny_end (by kernel_rfl) ?_ _
  all_goals
   try go_wp2
   go_ret
   exact ⟨rfl, zqx BZ.out (zqx X13.out.bl hW X13.out.bl.size) BZ.out.size⟩
end Go.Proofs.YtmhllppjcilllaaGreatDoor
