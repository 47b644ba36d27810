import Derived.Test.YtmhllppjcilllaaGreatDoorFb
import Derived.BigGuardPart
set_option linter.unusedSimpArgs false
set_option linter.unusedVariables false
set_option maxRecDepth 100000
set_option maxHeartbeats 8000000
open Go Go.RowKit Cs
namespace Go.Proofs.YtmhllppjcilllaaGreatDoor
theorem adds_no (w : World) (hT : Tab w) (N : Nt) (A : Option Addr) (c : Nat) (Aw : Option Addr) (lw cw : Nat) (At : Option Addr) (lt ct : Nat) (hlen : N.l.length ≤ 140737488355328) (hN : NtAt w w.heap.size A N.l) (pk sg mo : Nat) (hno : askB N lt = false ∨ (vld N && dcmp N) = false) :
  Calls Tryz.prog 6 #[askV N A c Aw lw cw At lt ct, .int .u8 (pk : Int), .int .u8 (sg : Int), .int .u8 (mo : Int)] w fun e w' => e = .returned (.bool true) ∧ Below w.heap.size w w' := by
 have q0 : Kp w [eAsk w.heap.size N A c Aw lw cw At lt ct] (w.alloc (.cells #[.int .i64 N.n, .slice A N.l.length c, .slice Aw lw cw, .slice At lt ct] 28)) := (Kp.nil w).new _ _ w.heap.size 4 rfl rfl;obtain ⟨s1, s2, s3, s4⟩ := fourCells (q0.row 0 rfl);have hli : ∀ W, Below w.heap.size w W → _ := fun W h => askLight_any W N A c Aw lw cw At lt ct hlen ((hN.below h).more h.size);have hdc : ∀ W, Below w.heap.size w W → _ := fun W h => dcmp_any W N A c hlen ((hN.below h).more h.size);have HLI := zqh hli;have HDC := zqh hdc;have HT := zqh hT;have Q0 := zqh q0;clear hli hdc hT q0;by_cases hl : askB N lt = true
 ·have hd : (vld N && dcmp N) = false := by rcases hno with h | h; (· rw [hl] at h; cases h); exact h
  rw [hl] at HLI;rw [hd] at HDC;clear hno hl hd
  go_enter Tryz.func6, Tryz.ntmps6
  go_wp2_with (first
   | (go_at_call 14; (with_reducible refine (HLI.out _ Q0.out.bl).mono ?_); rintro e w1 ⟨rfl, hb1⟩; have Q1 := zqh (Q0.out.below hb1); clear hb1 s1 s2 s3 s4; obtain ⟨s1, s2, s3, s4⟩ := fourCells (Q1.out.row 0 rfl))
   | (go_at_call 25; (with_reducible refine (HDC.out _ Q1.out.bl).mono ?_); rintro e w2 ⟨rfl, hb2⟩; have Q2 := zqh (Q1.out.below hb2); clear hb2 s1 s2 s3 s4)
   | (go_at_call 15; (with_reducible refine (works_any _ (HT.out.below Q2.out.bl)).mono ?_); rintro e w3 ⟨rfl, hb3⟩; have Q3 := zqh (Q2.out.below hb3)))
  all_goals
   go_ret
   exact ⟨rfl, Q3.out.bl⟩
 ·have hl' : askB N lt = false := by simpa using hl
  rw [hl'] at HLI;clear hno hl hl'
  go_enter Tryz.func6, Tryz.ntmps6
  go_wp2_with (first
   | (go_at_call 14; (with_reducible refine (HLI.out _ Q0.out.bl).mono ?_); rintro e w1 ⟨rfl, hb1⟩; have Q1 := zqh (Q0.out.below hb1); clear hb1 s1 s2 s3 s4; obtain ⟨s1, s2, s3, s4⟩ := fourCells (Q1.out.row 0 rfl))
   | (go_at_call 15; (with_reducible refine (works_any _ (HT.out.below Q1.out.bl)).mono ?_); rintro e w2 ⟨rfl, hb2⟩; have Q2 := zqh (Q1.out.below hb2)))
  all_goals
   go_ret
   exact ⟨rfl, Q2.out.bl⟩
theorem adds_long (w : World) (hT : Tab w) (N : Nt) (A : Option Addr) (c : Nat) (Aw : Option Addr) (lw cw : Nat) (At : Option Addr) (lt ct : Nat) (hlen : N.l.length ≤ 140737488355328) (hN : NtAt w w.heap.size A N.l) (pk sg mo : Nat) (M : Nat) (L H : List Pr) (hM : M ≤ 129)
  (haw : ∀ W, Below w.heap.size w W → Calls Tryz.prog 17 #[askV N A c Aw lw cw At lt ct] W fun e w' => ∃ v g1 c1 g2 c2 F1 F2, e = .returned v ∧ WtV W.heap.size M L H v g1 c1 g2 c2 F1 F2 w' ∧ Below W.heap.size W w') (hl : askB N lt = true) (hd : (vld N && dcmp N) = true)
  (hto : ∀ W b9 b10 g1 c1 g2 c2, WnS N A c b9 b10 g1 c1 g2 c2 M L H W → M ≤ c1 → M ≤ c2 → Calls Tryz.prog 16 #[ntV N A c, wtsV (some ⟨g1, 0, none⟩) (some ⟨g2, 0, none⟩) M M c1 c2] W fun e w' => e = .returned (.tuple #[ratV 0 0, .int .i64 2]) ∧ Below W.heap.size W w')
  (hby : ∀ W b9 b10 g1 c1 g2 c2, WnS N A c b9 b10 g1 c1 g2 c2 M L H W → M ≤ c1 → M ≤ c2 → Calls Tryz.prog 21 #[ntV N A c, wtsV (some ⟨g1, 0, none⟩) (some ⟨g2, 0, none⟩) M M c1 c2] W fun e w' => e = .returned (.tuple #[.slice none 0 0, .slice none 0 0, .int .i64 2]) ∧ Below W.heap.size W w') :
  Calls Tryz.prog 6 #[askV N A c Aw lw cw At lt ct, .int .u8 (pk : Int), .int .u8 (sg : Int), .int .u8 (mo : Int)] w fun e w' => e = .returned (.bool true) ∧ Below w.heap.size w w' := by
 have q0 : Kp w [eAsk w.heap.size N A c Aw lw cw At lt ct] (w.alloc (.cells #[.int .i64 N.n, .slice A N.l.length c, .slice Aw lw cw, .slice At lt ct] 28)) := (Kp.nil w).new _ _ w.heap.size 4 rfl rfl;obtain ⟨s1, s2, s3, s4⟩ := fourCells (q0.row 0 rfl);have hli : ∀ W, Below w.heap.size w W → _ := fun W h => askLight_any W N A c Aw lw cw At lt ct hlen ((hN.below h).more h.size);have hdc : ∀ W, Below w.heap.size w W → _ := fun W h => dcmp_any W N A c hlen ((hN.below h).more h.size);rw [hl] at hli;rw [hd] at hdc;have HLI := zqh hli;have HDC := zqh hdc;have HAW := zqh haw;have HTO := zqh hto
 have HBY := zqh hby
 have HT := zqh hT;have HN := zqh hN;have Q0 := zqh q0
 clear hli hdc hT q0 hN hl hd haw hto hby
 go_enter Tryz.func6, Tryz.ntmps6
 go_upto_region 3 with (first
   | (go_at_call 14; (with_reducible refine (HLI.out _ Q0.out.bl).mono ?_); rintro e w1 ⟨rfl, hb1⟩; have Q1 := zqh (Q0.out.below hb1); clear hb1 s1 s2 s3 s4; obtain ⟨s1, s2, s3, s4⟩ := fourCells (Q1.out.row 0 rfl))
   | (go_at_call 25; (with_reducible refine (HDC.out _ Q1.out.bl).mono ?_); rintro e V0 ⟨rfl, hb2⟩; have Q2 := zqh (Q1.out.below hb2); clear hb2 s1 s2 s3 s4; obtain ⟨s1, s2, s3, s4⟩ := fourCells (Q2.out.row 0 rfl)))
 go_cut [9, 10] from 38 to 41 (fun p q wx => ∃ b9 b10 g1 c1 g2 c2 F1 F2, p = .pointer (some ⟨b9, 0, none⟩) ∧ q = .pointer (some ⟨b10, 0, none⟩) ∧ wx.rowIs b9 24 2 (arrF #[.int .i64 N.n, .slice A N.l.length c]) ∧ wx.rowIs b10 39 2 (arrF #[.slice (some ⟨g1, 0, none⟩) M c1, .slice (some ⟨g2, 0, none⟩) M c2]) ∧ WtV w.heap.size M L H (.agg #[.slice (some ⟨g1, 0, none⟩) M c1, .slice (some ⟨g2, 0, none⟩) M c2]) g1 c1 g2 c2 F1 F2 wx ∧ Below w.heap.size w wx)
 case first =>
  have BL := zqh Q2.out.bl;have hbx := (Q2.out.row 0 rfl).lt;have HS : Hid (∀ W, Below V0.heap.size V0 W → W.cell? ⟨w.heap.size, 0, none⟩ = some (.int .i64 N.n) ∧ W.cell? ⟨w.heap.size, 1, none⟩ = some (.slice A N.l.length c) ∧ W.cell? ⟨w.heap.size, 2, none⟩ = some (.slice Aw lw cw) ∧ W.cell? ⟨w.heap.size, 3, none⟩ = some (.slice At lt ct)) := zqh fun W hb => ⟨(hb.cell (p := ⟨w.heap.size, 0, none⟩) hbx).trans s1, (hb.cell (p := ⟨w.heap.size, 1, none⟩) hbx).trans s2, (hb.cell (p := ⟨w.heap.size, 2, none⟩) hbx).trans s3, (hb.cell (p := ⟨w.heap.size, 3, none⟩) hbx).trans s4⟩
  refine wp_region_props (n := _) (PX := [zqu (.pointer (some ⟨w.heap.size, 0, none⟩)),
     zqu (.agg #[.int .i64 N.n, .slice A N.l.length c]),
     zqu (.agg #[.int .i64 N.n, .slice A N.l.length c, .slice Aw lw cw, .slice At lt ct]),
     fun xl xv xw => ∃ g1 c1 g2 c2 F1 F2, xv = .agg #[.slice (some ⟨g1, 0, none⟩) M c1, .slice (some ⟨g2, 0, none⟩) M c2] ∧ WtV V0.heap.size M L H (.agg #[.slice (some ⟨g1, 0, none⟩) M c1, .slice (some ⟨g2, 0, none⟩) M c2]) g1 c1 g2 c2 F1 F2 xw,
     fun xl xv xw => ∃ X, xv = .pointer (some ⟨X, 0, none⟩) ∧ V0.heap.size ≤ X ∧ World.rowIs xw X 24 2 (arrF #[.int .i64 0, .slice none 0 0]),
     fun xl xv xw => ∃ X, xv = .pointer (some ⟨X, 0, none⟩) ∧ V0.heap.size ≤ X ∧ World.rowIs xw X 39 2 (arrF #[.slice none 0 0, .slice none 0 0])])
    (AL := [4, 5]) (DP := [[], [0], [], [2], [], []]) (L1 := [0, 1, 2, 3, 4, 5]) (ex := []) (by kernel_rfl) rfl (by kernel_rfl) ?_ ?_ (fin0 ?_)
  ·refine zqg ?_ (zqg ?_ (zqg ?_ (zqg ?_ (zqg ?_ (zqg ?_ zqi)))))
   iterate 3 exact fun _ _ _ _ h _ => h
   ·exact fun l v w w2 h hb => by obtain ⟨g1, c1, g2, c2, F1, F2, h1, h2⟩ := h; exact ⟨g1, c1, g2, c2, F1, F2, h1, h2.below hb⟩
   ·exact fun l v w w2 h hb => by obtain ⟨X, h1, h2, h3⟩ := h; exact ⟨X, h1, h2, rowBelow h3 hb⟩
   ·exact fun l v w w2 h hb => by obtain ⟨X, h1, h2, h3⟩ := h; exact ⟨X, h1, h2, rowBelow h3 hb⟩
  ·refine zqg ?_ (zqg ?_ (zqg ?_ (zqg ?_ (zqg ?_ (zqg ?_ zqi)))))
   ·refine zso rfl [] ?_;intro vs W hW hd K hK;clear hd
    try simp only [putsD, Act.put, zqa, zqb, zqc, zqd, zqe, zqf] at hK ⊢
    obtain ⟨m1, m2, m3, m4⟩ := HS.out W hW
    go_simp
    exact hK.out _ _ rfl (zqr _ _) (zqv rfl)
   ·refine zso rfl [(0, some 38)] ?_;intro vs W hW hd K hK;have d0 : vs 0 = .pointer (some ⟨w.heap.size, 0, none⟩) := hd 0 (by decide);clear hd
    try simp only [d0, putsD, Act.put, zqa, zqb, zqc, zqd, zqe, zqf] at hK ⊢
    obtain ⟨m1, m2, m3, m4⟩ := HS.out W hW
    go_simp
    exact hK.out _ _ rfl (zqr _ _) (zqv rfl)
   ·refine zso rfl [] ?_;intro vs W hW hd K hK;clear hd
    try simp only [putsD, Act.put, zqa, zqb, zqc, zqd, zqe, zqf] at hK ⊢
    obtain ⟨m1, m2, m3, m4⟩ := HS.out W hW
    go_simp
    exact hK.out _ _ rfl (zqr _ _) (zqv rfl)
   ·refine zso rfl [(2, some 40)] ?_;intro vs W hW hd K hK;have d2 : vs 2 = .agg #[.int .i64 N.n, .slice A N.l.length c, .slice Aw lw cw, .slice At lt ct] := hd 2 (by decide);clear hd
    try simp only [d2, putsD, Act.put, zqa, zqb, zqc, zqd, zqe, zqf] at hK ⊢
    go_simp
    go_at_call 17
    (with_reducible first | refine (HAW.out _ (zqx BL.out hW BL.out.size)).mono ?_)
    rintro e w9 ⟨v, g1, c1, g2, c2, F1, F2, rfl, hq9, hb9⟩; obtain rfl := hq9.v
    exact hK.out _ _ (⟨g1, c1, g2, c2, F1, F2, rfl, hq9.more hW.size⟩) hb9 (fun h => absurd h (by decide))
   ·refine zso rfl [] ?_;intro vs W hW hd K hK;clear hd
    try simp only [putsD, Act.put, zqa, zqb, zqc, zqd, zqe, zqf] at hK ⊢
    go_simp
    exact hK.out _ _ ⟨W.heap.size, rfl, hW.size, arrNew _ _ _ _ _ rfl rfl⟩ ((zqr _ _).alloc (zqn _) _) (fun _ b hb => by simp [blkOf] at hb; subst hb; exact ⟨zqn _, by simp⟩)
   ·refine zso rfl [] ?_;intro vs W hW hd K hK;clear hd
    try simp only [putsD, Act.put, zqa, zqb, zqc, zqd, zqe, zqf] at hK ⊢
    go_simp
    exact hK.out _ _ ⟨W.heap.size, rfl, hW.size, arrNew _ _ _ _ _ rfl rfl⟩ ((zqr _ _).alloc (zqn _) _) (fun _ b hb => by simp [blkOf] at hb; subst hb; exact ⟨zqn _, by simp⟩)
  refine FinOk.intro [(0, some 38), (1, some 39), (2, some 40), (3, some 41), (4, some 9), (5, some 10)] #[true, true, true, true, true, true, false, false] 2 (by kernel_rfl) (by kernel_rfl) (by kernel_rfl) ?_;intro vs Wf hW0 hd hbk hdis kf;have hW := zqw hW0;have d0 : vs 0 = .pointer (some ⟨w.heap.size, 0, none⟩) := hd 0 (by decide);have d1 : vs 1 = .agg #[.int .i64 N.n, .slice A N.l.length c] := hd 1 (by decide);have d2 : vs 2 = .agg #[.int .i64 N.n, .slice A N.l.length c, .slice Aw lw cw, .slice At lt ct] := hd 2 (by decide);obtain ⟨g1, c1, g2, c2, F1, F2, d3, hq8⟩ : ∃ g1 c1 g2 c2 F1 F2, vs 3 = .agg #[.slice (some ⟨g1, 0, none⟩) M c1, .slice (some ⟨g2, 0, none⟩) M c2] ∧ WtV V0.heap.size M L H (.agg #[.slice (some ⟨g1, 0, none⟩) M c1, .slice (some ⟨g2, 0, none⟩) M c2]) g1 c1 g2 c2 F1 F2 Wf := hd 3 (by decide);obtain ⟨X9, d4, b9, r9⟩ : ∃ X, vs 4 = .pointer (some ⟨X, 0, none⟩) ∧ V0.heap.size ≤ X ∧ World.rowIs Wf X 24 2 (arrF #[.int .i64 0, .slice none 0 0]) := hd 4 (by decide);obtain ⟨X10, d5, b10, r10⟩ : ∃ X, vs 5 = .pointer (some ⟨X, 0, none⟩) ∧ V0.heap.size ≤ X ∧ World.rowIs Wf X 39 2 (arrF #[.slice none 0 0, .slice none 0 0]) := hd 5 (by decide);have n9_10 : X9 ≠ X10 := fun h => hdis 4 (by decide) 5 (by decide) (by decide) rfl rfl X9 (by rw [d4]; rfl) (by rw [d5, h]; rfl);have n10_9 := Ne.symm n9_10;clear hd hbk hdis hW0
  try simp only [d0, d1, d2, d3, d4, d5, putsD, Act.put, zqa, zqb, zqc, zqd, zqe, zqf]
  clear d0 d1 d2 d3 d4 d5 vs;clear HS;have l9 := r9.lt;have y9_0 := r9.frozen 0;have k9_0 := r9.cell (i := 0) (by decide);have y9_1 := r9.frozen 1;have k9_1 := r9.cell (i := 1) (by decide);have l10 := r10.lt;have y10_0 := r10.frozen 0;have k10_0 := r10.cell (i := 0) (by decide);have y10_1 := r10.frozen 1;have k10_1 := r10.cell (i := 1) (by decide);refine wpAny_one1 6 (by kernel_rfl) rfl (fun K hK => ?_)
  go_simp
  refine hK.out _ _ ?_;clear hK K
  try simp only [putsD, Act.put, zqa, zqb, zqc, zqd, zqe, zqf]
  refine wpAny_one1 7 (by kernel_rfl) rfl (fun K hK => ?_)
  go_simp
  refine hK.out _ _ ?_;clear hK K
  try simp only [putsD, Act.put, zqa, zqb, zqc, zqd, zqe, zqf]
  refine wpAny_end (by kernel_rfl) ?_ _
  all_goals
   try go_wp2
   go_meet
   have z := row_ne r9 r10 (by decide);have z1 := row_ne r9 hq8.r1 (by decide);have z2 := row_ne r9 hq8.r2 (by decide);have z3 := row_ne r10 hq8.r1 (by decide);have z4 := row_ne r10 hq8.r2 (by decide)
   exact ⟨X9, X10, g1, c1, g2, c2, F1, F2, rfl, rfl, ((pairRow r9 _ _).setOther z _).setOther z _, pairRow ((r10.setOther (Ne.symm z) _).setOther (Ne.symm z) _) _ _,
    ((hq8.more BL.out.size).far z1.symm z2.symm _ _).far z3.symm z4.symm _ _, below_set2 (below_set2 (zqx BL.out hW BL.out.size) (Nat.le_trans BL.out.size b9) _ _) (Nat.le_trans BL.out.size b10) _ _⟩
 case rest =>
 obtain ⟨V1, rfl⟩ : ∃ V, V = wc := ⟨wc, rfl⟩;obtain ⟨b9, b10, g1, c1, g2, c2, F1, F2, rfl, rfl, r9, r10, hq, hbl⟩ := hcut;have hm1 := hq.m1;have hm2 := hq.m2;have hs1 := wn_of (c := c) HN.out HT.out hbl r9 r10 hq;have HS1 := zqh hs1;have BL1 := zqh hbl;have X1 := zqh (Kp.nil V1);have hx := hs1 V1 (zqr _ _);have M1 := zqh hm1;have M2 := zqh hm2;obtain ⟨t1, t2, t3, t4⟩ := hx.cells;clear r9 r10 hq hbl hs1 hx HAW HDC HLI Q0 Q1 Q2 s1 s2 s3 s4 hm1 hm2
 go_wp2_with (first
  | (go_at_call 16; (with_reducible refine (HTO.out _ _ _ _ _ _ _ (HS1.out _ X1.out.bl) M1.out M2.out).mono ?_); rintro e w3 ⟨rfl, hb3⟩; have X2 := zqh ((X1.out.below hb3).alloc (.cells #[.string (natB 0), .string (natB 0)] 33)); clear hb3 t1 t2 t3 t4; obtain ⟨t1, t2, t3, t4⟩ := (HS1.out _ X2.out.bl).cells)
  | (go_at_call 21; (with_reducible refine (HBY.out _ _ _ _ _ _ _ (HS1.out _ X2.out.bl) M1.out M2.out).mono ?_); rintro e w4 ⟨rfl, hb4⟩; have X3 := zqh (X2.out.below hb4); clear hb4 t1 t2 t3 t4)
  | (go_at_call 15; (with_reducible refine (works_any _ ((HS1.out _ X3.out.bl).tb)).mono ?_); rintro e w5 ⟨rfl, hb5⟩; have X4 := zqh (X3.out.below hb5)))
 all_goals
  go_ret
  exact ⟨rfl, zqx BL1.out X4.out.bl BL1.out.size⟩
theorem adds_main (w : World) (hT : Tab w) (N : Nt) (A : Option Addr) (c : Nat) (Aw : Option Addr) (lw cw : Nat) (At : Option Addr) (lt ct : Nat) (hlen : N.l.length ≤ 140737488355328) (hN : NtAt w w.heap.size A N.l) (pk sg mo : Nat) (M : Nat) (L H : List Pr) (hM : M ≤ 129)
  (haw : ∀ W, Below w.heap.size w W → Calls Tryz.prog 17 #[askV N A c Aw lw cw At lt ct] W fun e w' => ∃ v g1 c1 g2 c2 F1 F2, e = .returned v ∧ WtV W.heap.size M L H v g1 c1 g2 c2 F1 F2 w' ∧ Below W.heap.size W w') (hl : askB N lt = true) (hd : (vld N && dcmp N) = true) (n : Nat) (hnn : N.n = (n : Int)) (hMn : M = n + 1) (hpk : pk < 256) (hsg : sg < 256) (hmo : mo < 256) (hn8 : n ≤ 8) (T : Pr) (LP HP : List Pr)
  (hto : ∀ W b9 b10 g1 c1 g2 c2, WnS N A c b9 b10 g1 c1 g2 c2 M L H W → M ≤ c1 → M ≤ c2 → Calls Tryz.prog 16 #[ntV N A c, wtsV (some ⟨g1, 0, none⟩) (some ⟨g2, 0, none⟩) M M c1 c2] W fun e w' => e = .returned (.tuple #[ratV T.1 T.2, .int .i64 0]) ∧ Below W.heap.size W w')
  (hby : ∀ W b9 b10 g1 c1 g2 c2, WnS N A c b9 b10 g1 c1 g2 c2 M L H W → M ≤ c1 → M ≤ c2 → Calls Tryz.prog 21 #[ntV N A c, wtsV (some ⟨g1, 0, none⟩) (some ⟨g2, 0, none⟩) M M c1 c2] W fun e w' => ∃ gl gh, e = .returned (.tuple #[.slice (some ⟨gl, 0, none⟩) M M, .slice (some ⟨gh, 0, none⟩) M M, .int .i64 0]) ∧ w'.rowIs gl 33 (M * 2) (prsF LP) ∧ w'.rowIs gh 33 (M * 2) (prsF HP) ∧ Below W.heap.size W w')
  (had : ∀ k, 1 ≤ k → k < M → ∃ S : Pr, (∀ W, Calls Tryz.prog 27 #[ratV (LP.getD k (0, 0)).1 (LP.getD k (0, 0)).2, ratV (HP.getD k (0, 0)).1 (HP.getD k (0, 0)).2] W fun e w' => e = .returned (ratV S.1 S.2) ∧ Below W.heap.size W w') ∧
    ∀ W, Calls Tryz.prog 26 #[ratV S.1 S.2, ratV T.1 T.2] W fun e w' => e = .returned (.bool true) ∧ Below W.heap.size W w')
  (T1 : Pr) (E1 : Int) (hsn : ∀ W b9 b10 g1 c1 g2 c2, WnS N A c b9 b10 g1 c1 g2 c2 M L H W → M ≤ c1 → M ≤ c2 → Calls Tryz.prog 23 #[ntV N A c, wtsV (some ⟨g1, 0, none⟩) (some ⟨g2, 0, none⟩) M M c1 c2, .slice none 0 0] W fun e w' => e = .returned (.tuple #[ratV T1.1 T1.2, .int .i64 E1]) ∧ Below W.heap.size W w')
  (X : ByteArray) (htx : ∀ W, Calls Tryz.prog 28 #[ratV T.1 T.2] W fun e w' => e = .returned (.string X) ∧ Below W.heap.size W w') (T1x : ByteArray) (SP : List Int → Pr)
  (htx1 : T.1 ≠ 0 → ∀ W, Calls Tryz.prog 28 #[ratV T1.1 T1.2] W fun e w' => e = .returned (.string T1x) ∧ Below W.heap.size W w') (hx1 : (T1x.toList == [49]) = true)
  (hsh : T.1 ≠ 0 → ∀ W b9 b10 g1 c1 g2 c2, WnS N A c b9 b10 g1 c1 g2 c2 M L H W → M ≤ c1 → M ≤ c2 → ∀ (t : List Int) (At : Option Addr) (ct : Nat), t.length ≤ 1000000 → termB N.n t = true → (∀ x ∈ t, -9223372036854775808 ≤ x ∧ x ≤ 9223372036854775807) → Rd W W.heap.size At t.length (intF t) → Calls Tryz.prog 23 #[ntV N A c, wtsV (some ⟨g1, 0, none⟩) (some ⟨g2, 0, none⟩) M M c1 c2, .slice At t.length ct] W fun e w' => e = .returned (.tuple #[ratV (SP t).1 (SP t).2, .int .i64 0]) ∧ Below W.heap.size W w')
  (hsa : T.1 ≠ 0 → ∀ (t : List Int) (v : Nat), 1 ≤ v → v ≤ n → ∃ S : Pr, (∀ W, Calls Tryz.prog 27 #[ratV (SP (t ++ [(v : Int)])).1 (SP (t ++ [(v : Int)])).2, ratV (SP ([-(v : Int), -(v : Int)] ++ t)).1 (SP ([-(v : Int), -(v : Int)] ++ t)).2] W fun e w' => e = .returned (ratV S.1 S.2) ∧ Below W.heap.size W w') ∧
    ∀ W, Calls Tryz.prog 26 #[ratV S.1 S.2, ratV (SP t).1 (SP t).2] W fun e w' => e = .returned (.bool true) ∧ Below W.heap.size W w')
  (hz1 : T.1 = 0 → (X.toList == [48]) = true ∧ E1 = 3) (hz2 : T.1 ≠ 0 → (X.toList == [48]) = false ∧ E1 = 0) :
  Calls Tryz.prog 6 #[askV N A c Aw lw cw At lt ct, .int .u8 (pk : Int), .int .u8 (sg : Int), .int .u8 (mo : Int)] w fun e w' => e = .returned (.bool true) ∧ Below w.heap.size w w' := by
 have q0 : Kp w [eAsk w.heap.size N A c Aw lw cw At lt ct] (w.alloc (.cells #[.int .i64 N.n, .slice A N.l.length c, .slice Aw lw cw, .slice At lt ct] 28)) := (Kp.nil w).new _ _ w.heap.size 4 rfl rfl;obtain ⟨s1, s2, s3, s4⟩ := fourCells (q0.row 0 rfl);have hli : ∀ W, Below w.heap.size w W → _ := fun W h => askLight_any W N A c Aw lw cw At lt ct hlen ((hN.below h).more h.size);have hdc : ∀ W, Below w.heap.size w W → _ := fun W h => dcmp_any W N A c hlen ((hN.below h).more h.size);rw [hl] at hli;rw [hd] at hdc;have HLI := zqh hli;have HDC := zqh hdc;have HAW := zqh haw;have HTO := zqh hto;have HNN := zqh hnn;have HMN := zqh hMn;have HPK := zqh hpk;have HSG := zqh hsg;have HMO := zqh hmo;have HN8 := zqh hn8
 have HBY := zqh hby
 have HAD := zqh had;have HSN := zqh hsn;have HTX := zqh htx;have HZ1 := zqh hz1;have HTX1 := zqh htx1;have HX1 := zqh hx1;have HSH := zqh hsh;have HSA := zqh hsa;have HZ2 := zqh hz2;have HT := zqh hT;have HN := zqh hN;have Q0 := zqh q0;clear hli hdc hT q0 hN hl hd haw hto hby had hsn htx hz1 hz2 htx1 hx1 hsh hsa hnn hMn hpk hsg hmo hn8
 go_enter Tryz.func6, Tryz.ntmps6
 go_upto_region 3 with (first
   | (go_at_call 14; (with_reducible refine (HLI.out _ Q0.out.bl).mono ?_); rintro e w1 ⟨rfl, hb1⟩; have Q1 := zqh (Q0.out.below hb1); clear hb1 s1 s2 s3 s4; obtain ⟨s1, s2, s3, s4⟩ := fourCells (Q1.out.row 0 rfl))
   | (go_at_call 25; (with_reducible refine (HDC.out _ Q1.out.bl).mono ?_); rintro e V0 ⟨rfl, hb2⟩; have Q2 := zqh (Q1.out.below hb2); clear hb2 s1 s2 s3 s4; obtain ⟨s1, s2, s3, s4⟩ := fourCells (Q2.out.row 0 rfl)))
 go_cut [9, 10] from 38 to 41 (fun p q wx => ∃ b9 b10 g1 c1 g2 c2 F1 F2, p = .pointer (some ⟨b9, 0, none⟩) ∧ q = .pointer (some ⟨b10, 0, none⟩) ∧ wx.rowIs b9 24 2 (arrF #[.int .i64 N.n, .slice A N.l.length c]) ∧ wx.rowIs b10 39 2 (arrF #[.slice (some ⟨g1, 0, none⟩) M c1, .slice (some ⟨g2, 0, none⟩) M c2]) ∧ WtV w.heap.size M L H (.agg #[.slice (some ⟨g1, 0, none⟩) M c1, .slice (some ⟨g2, 0, none⟩) M c2]) g1 c1 g2 c2 F1 F2 wx ∧ Below w.heap.size w wx)
 case first =>
  have BL := zqh Q2.out.bl;have hbx := (Q2.out.row 0 rfl).lt;have HS : Hid (∀ W, Below V0.heap.size V0 W → W.cell? ⟨w.heap.size, 0, none⟩ = some (.int .i64 N.n) ∧ W.cell? ⟨w.heap.size, 1, none⟩ = some (.slice A N.l.length c) ∧ W.cell? ⟨w.heap.size, 2, none⟩ = some (.slice Aw lw cw) ∧ W.cell? ⟨w.heap.size, 3, none⟩ = some (.slice At lt ct)) := zqh fun W hb => ⟨(hb.cell (p := ⟨w.heap.size, 0, none⟩) hbx).trans s1, (hb.cell (p := ⟨w.heap.size, 1, none⟩) hbx).trans s2, (hb.cell (p := ⟨w.heap.size, 2, none⟩) hbx).trans s3, (hb.cell (p := ⟨w.heap.size, 3, none⟩) hbx).trans s4⟩
  refine wp_region_props (n := _) (PX := [zqu (.pointer (some ⟨w.heap.size, 0, none⟩)),
     zqu (.agg #[.int .i64 N.n, .slice A N.l.length c]),
     zqu (.agg #[.int .i64 N.n, .slice A N.l.length c, .slice Aw lw cw, .slice At lt ct]),
     fun xl xv xw => ∃ g1 c1 g2 c2 F1 F2, xv = .agg #[.slice (some ⟨g1, 0, none⟩) M c1, .slice (some ⟨g2, 0, none⟩) M c2] ∧ WtV V0.heap.size M L H (.agg #[.slice (some ⟨g1, 0, none⟩) M c1, .slice (some ⟨g2, 0, none⟩) M c2]) g1 c1 g2 c2 F1 F2 xw,
     fun xl xv xw => ∃ X, xv = .pointer (some ⟨X, 0, none⟩) ∧ V0.heap.size ≤ X ∧ World.rowIs xw X 24 2 (arrF #[.int .i64 0, .slice none 0 0]),
     fun xl xv xw => ∃ X, xv = .pointer (some ⟨X, 0, none⟩) ∧ V0.heap.size ≤ X ∧ World.rowIs xw X 39 2 (arrF #[.slice none 0 0, .slice none 0 0])])
    (AL := [4, 5]) (DP := [[], [0], [], [2], [], []]) (L1 := [0, 1, 2, 3, 4, 5]) (ex := []) (by kernel_rfl) rfl (by kernel_rfl) ?_ ?_ (fin0 ?_)
  ·refine zqg ?_ (zqg ?_ (zqg ?_ (zqg ?_ (zqg ?_ (zqg ?_ zqi)))))
   iterate 3 exact fun _ _ _ _ h _ => h
   ·exact fun l v w w2 h hb => by obtain ⟨g1, c1, g2, c2, F1, F2, h1, h2⟩ := h; exact ⟨g1, c1, g2, c2, F1, F2, h1, h2.below hb⟩
   ·exact fun l v w w2 h hb => by obtain ⟨X, h1, h2, h3⟩ := h; exact ⟨X, h1, h2, rowBelow h3 hb⟩
   ·exact fun l v w w2 h hb => by obtain ⟨X, h1, h2, h3⟩ := h; exact ⟨X, h1, h2, rowBelow h3 hb⟩
  ·refine zqg ?_ (zqg ?_ (zqg ?_ (zqg ?_ (zqg ?_ (zqg ?_ zqi)))))
   ·refine zso rfl [] ?_;intro vs W hW hd K hK;clear hd
    try simp only [putsD, Act.put, zqa, zqb, zqc, zqd, zqe, zqf] at hK ⊢
    obtain ⟨m1, m2, m3, m4⟩ := HS.out W hW
    go_simp
    exact hK.out _ _ rfl (zqr _ _) (zqv rfl)
   ·refine zso rfl [(0, some 38)] ?_;intro vs W hW hd K hK;have d0 : vs 0 = .pointer (some ⟨w.heap.size, 0, none⟩) := hd 0 (by decide);clear hd
    try simp only [d0, putsD, Act.put, zqa, zqb, zqc, zqd, zqe, zqf] at hK ⊢
    obtain ⟨m1, m2, m3, m4⟩ := HS.out W hW
    go_simp
    exact hK.out _ _ rfl (zqr _ _) (zqv rfl)
   ·refine zso rfl [] ?_;intro vs W hW hd K hK;clear hd
    try simp only [putsD, Act.put, zqa, zqb, zqc, zqd, zqe, zqf] at hK ⊢
    obtain ⟨m1, m2, m3, m4⟩ := HS.out W hW
    go_simp
    exact hK.out _ _ rfl (zqr _ _) (zqv rfl)
   ·refine zso rfl [(2, some 40)] ?_;intro vs W hW hd K hK;have d2 : vs 2 = .agg #[.int .i64 N.n, .slice A N.l.length c, .slice Aw lw cw, .slice At lt ct] := hd 2 (by decide);clear hd
    try simp only [d2, putsD, Act.put, zqa, zqb, zqc, zqd, zqe, zqf] at hK ⊢
    go_simp
    go_at_call 17
    (with_reducible first | refine (HAW.out _ (zqx BL.out hW BL.out.size)).mono ?_)
    rintro e w9 ⟨v, g1, c1, g2, c2, F1, F2, rfl, hq9, hb9⟩; obtain rfl := hq9.v
    exact hK.out _ _ (⟨g1, c1, g2, c2, F1, F2, rfl, hq9.more hW.size⟩) hb9 (fun h => absurd h (by decide))
   ·refine zso rfl [] ?_;intro vs W hW hd K hK;clear hd
    try simp only [putsD, Act.put, zqa, zqb, zqc, zqd, zqe, zqf] at hK ⊢
    go_simp
    exact hK.out _ _ ⟨W.heap.size, rfl, hW.size, arrNew _ _ _ _ _ rfl rfl⟩ ((zqr _ _).alloc (zqn _) _) (fun _ b hb => by simp [blkOf] at hb; subst hb; exact ⟨zqn _, by simp⟩)
   ·refine zso rfl [] ?_;intro vs W hW hd K hK;clear hd
    try simp only [putsD, Act.put, zqa, zqb, zqc, zqd, zqe, zqf] at hK ⊢
    go_simp
    exact hK.out _ _ ⟨W.heap.size, rfl, hW.size, arrNew _ _ _ _ _ rfl rfl⟩ ((zqr _ _).alloc (zqn _) _) (fun _ b hb => by simp [blkOf] at hb; subst hb; exact ⟨zqn _, by simp⟩)
  refine FinOk.intro [(0, some 38), (1, some 39), (2, some 40), (3, some 41), (4, some 9), (5, some 10)] #[true, true, true, true, true, true, false, false] 2 (by kernel_rfl) (by kernel_rfl) (by kernel_rfl) ?_;intro vs Wf hW0 hd hbk hdis kf;have hW := zqw hW0;have d0 : vs 0 = .pointer (some ⟨w.heap.size, 0, none⟩) := hd 0 (by decide);have d1 : vs 1 = .agg #[.int .i64 N.n, .slice A N.l.length c] := hd 1 (by decide);have d2 : vs 2 = .agg #[.int .i64 N.n, .slice A N.l.length c, .slice Aw lw cw, .slice At lt ct] := hd 2 (by decide);obtain ⟨g1, c1, g2, c2, F1, F2, d3, hq8⟩ : ∃ g1 c1 g2 c2 F1 F2, vs 3 = .agg #[.slice (some ⟨g1, 0, none⟩) M c1, .slice (some ⟨g2, 0, none⟩) M c2] ∧ WtV V0.heap.size M L H (.agg #[.slice (some ⟨g1, 0, none⟩) M c1, .slice (some ⟨g2, 0, none⟩) M c2]) g1 c1 g2 c2 F1 F2 Wf := hd 3 (by decide);obtain ⟨X9, d4, b9, r9⟩ : ∃ X, vs 4 = .pointer (some ⟨X, 0, none⟩) ∧ V0.heap.size ≤ X ∧ World.rowIs Wf X 24 2 (arrF #[.int .i64 0, .slice none 0 0]) := hd 4 (by decide);obtain ⟨X10, d5, b10, r10⟩ : ∃ X, vs 5 = .pointer (some ⟨X, 0, none⟩) ∧ V0.heap.size ≤ X ∧ World.rowIs Wf X 39 2 (arrF #[.slice none 0 0, .slice none 0 0]) := hd 5 (by decide);have n9_10 : X9 ≠ X10 := fun h => hdis 4 (by decide) 5 (by decide) (by decide) rfl rfl X9 (by rw [d4]; rfl) (by rw [d5, h]; rfl);have n10_9 := Ne.symm n9_10;clear hd hbk hdis hW0
  try simp only [d0, d1, d2, d3, d4, d5, putsD, Act.put, zqa, zqb, zqc, zqd, zqe, zqf]
  clear d0 d1 d2 d3 d4 d5 vs;clear HS;have l9 := r9.lt;have y9_0 := r9.frozen 0;have k9_0 := r9.cell (i := 0) (by decide);have y9_1 := r9.frozen 1;have k9_1 := r9.cell (i := 1) (by decide);have l10 := r10.lt;have y10_0 := r10.frozen 0;have k10_0 := r10.cell (i := 0) (by decide);have y10_1 := r10.frozen 1;have k10_1 := r10.cell (i := 1) (by decide);refine wpAny_one1 6 (by kernel_rfl) rfl (fun K hK => ?_)
  go_simp
  refine hK.out _ _ ?_;clear hK K
  try simp only [putsD, Act.put, zqa, zqb, zqc, zqd, zqe, zqf]
  refine wpAny_one1 7 (by kernel_rfl) rfl (fun K hK => ?_)
  go_simp
  refine hK.out _ _ ?_;clear hK K
  try simp only [putsD, Act.put, zqa, zqb, zqc, zqd, zqe, zqf]
  refine wpAny_end (by kernel_rfl) ?_ _
  all_goals
   try go_wp2
   go_meet
   have z := row_ne r9 r10 (by decide);have z1 := row_ne r9 hq8.r1 (by decide);have z2 := row_ne r9 hq8.r2 (by decide);have z3 := row_ne r10 hq8.r1 (by decide);have z4 := row_ne r10 hq8.r2 (by decide)
   exact ⟨X9, X10, g1, c1, g2, c2, F1, F2, rfl, rfl, ((pairRow r9 _ _).setOther z _).setOther z _, pairRow ((r10.setOther (Ne.symm z) _).setOther (Ne.symm z) _) _ _,
    ((hq8.more BL.out.size).far z1.symm z2.symm _ _).far z3.symm z4.symm _ _, below_set2 (below_set2 (zqx BL.out hW BL.out.size) (Nat.le_trans BL.out.size b9) _ _) (Nat.le_trans BL.out.size b10) _ _⟩
 case rest =>
 obtain ⟨V1, rfl⟩ : ∃ V, V = wc := ⟨wc, rfl⟩;obtain ⟨b9, b10, g1, c1, g2, c2, F1, F2, rfl, rfl, r9, r10, hq, hbl⟩ := hcut;have hm1 := hq.m1;have hm2 := hq.m2;have hs1 := wn_of (c := c) HN.out HT.out hbl r9 r10 hq;have HS1 := zqh hs1;have BL1 := zqh hbl;have X1 := zqh (Kp.nil V1);have hx := hs1 V1 (zqr _ _);have M1 := zqh hm1;have M2 := zqh hm2;obtain ⟨t1, t2, t3, t4⟩ := hx.cells;clear r9 r10 hq hbl hs1 hx HAW HDC HLI Q0 Q1 Q2 s1 s2 s3 s4 hm1 hm2
 go_upto_region 4 with (fail)
 go_cut [11, 12] from 42 to 47 (fun p q wx => ∃ b11, p = .pointer (some ⟨b11, 0, none⟩) ∧ q = .int .i64 0 ∧ Kp V1 [eRat b11 T] wx)
 case first =>
  go_wp2_with (go_at_call 16; (with_reducible refine (HTO.out _ _ _ _ _ _ _ (HS1.out _ X1.out.bl) M1.out M2.out).mono ?_); rintro e w3 ⟨rfl, hb3⟩)
  all_goals
   go_meet
   exact ⟨w3.heap.size, rfl, rfl, Kp_same0 ((X1.out.below hb3).new _ _ w3.heap.size 2 rfl rfl) (ratF_arr T.1 T.2)⟩
 case rest =>
 obtain ⟨b11, rfl, rfl, hq⟩ := hcut;clear t1 t2 t3 t4 X1 HTO;obtain ⟨t1, t2, t3, t4⟩ := (HS1.out _ hq.bl).cells;have X2 := zqh hq;clear hq
 go_upto_region 5 with (fail)
 go_cut [13, 14, 15] from 48 to 54 (fun p q r wx => ∃ gl gh, p = .slice (some ⟨gl, 0, none⟩) M M ∧ q = .slice (some ⟨gh, 0, none⟩) M M ∧ r = .int .i64 0 ∧ Kp V1 [ePrs gl M LP, ePrs gh M HP, eRat b11 T] wx)
 case first =>
  go_wp2_with (go_at_call 21; (with_reducible refine (HBY.out _ _ _ _ _ _ _ (HS1.out _ X2.out.bl) M1.out M2.out).mono ?_); rintro e w4 ⟨gl, gh, rfl, rl, rh, hb4⟩)
  all_goals
   go_meet
   exact ⟨gl, gh, rfl, rfl, rfl, ((X2.out.below hb4).add rh).add rl⟩
 case rest =>
 obtain ⟨gl, gh, rfl, rfl, rfl, hq⟩ := hcut;clear t1 t2 t3 t4 X2 HBY;obtain ⟨t1, t2, t3, t4⟩ := (HS1.out _ hq.bl).cells;have X3 := zqh hq;clear hq
 have hw1 : IntKind.i64.wrap (N.n + 1) = N.n + 1 := by have := HNN.out; have := HMN.out; rw [IntKind.wrap_i64]; omega
 have hne : ((M : Int) != N.n + 1) = false := by have := HNN.out; have := HMN.out; simp; omega
 go_upto_region 10 with (fail)
 go_wp2_with fail
 go_loopw [16] (fun v wr => ∃ k : Nat, 1 ≤ k ∧ k ≤ M ∧ v = .int .i64 k ∧ Kp V1 [ePrs gl M LP, ePrs gh M HP, eRat b11 T] wr) (fun v _ => M - (intOf v).toNat)
 case atStart => exact ⟨1, zqn _, by have := HMN.out; omega, rfl, X3.out⟩
 case round =>
  clear X3 t1 t2 t3 t4;obtain ⟨k, hk1, hk, rfl, hq⟩ := hrel;obtain ⟨t1, t2, t3, t4⟩ := (HS1.out _ hq.bl).cells;by_cases hlt : k < M
  ·have hc : decide ((k : Int) ≤ N.n) = true := decide_eq_true (by have := HNN.out; have := HMN.out; omega);obtain ⟨⟨sn, sd⟩, ha2, hs2⟩ := HAD.out k hk1 hlt;obtain ⟨s1, s2⟩ := prsCells (hq.row 0 rfl) k hlt;obtain ⟨s3, s4⟩ := prsCells (hq.row 1 rfl) k hlt;obtain ⟨s5, s6⟩ := ratCells (hq.row 2 rfl);have g1l := (hq.row 0 rfl).lt;have g2l := (hq.row 1 rfl).lt;have g3l := (hq.row 2 rfl).lt;obtain ⟨⟨ln, ld⟩, el⟩ : ∃ p, LP.getD k (0, 0) = p := ⟨_, rfl⟩;obtain ⟨⟨pn, pd⟩, eh⟩ : ∃ p, HP.getD k (0, 0) = p := ⟨_, rfl⟩;rw [el] at s1 s2;rw [eh] at s3 s4;rw [el, eh] at ha2;obtain ⟨tn, td⟩ := T;have HA2 := zqh ha2;have HS2 := zqh hs2;have X4 := zqh hq;have HLT := zqh hlt
   have hkM : (k : Int) < (M : Int) := by omega
   clear ha2 hs2 el eh hq hlt
   go_upto_region 13 with (fail)
   go_cut [110] from 99 to 110 (fun p wx => p = .bool false ∧ Below wr.heap.size wr wx)
   case first =>
    clear t1 t2 t3 t4;have HS : Hid (∀ W, Below wr.heap.size wr W → W.cell? ⟨gl, k * 2, none⟩ = some (.string (natB ln)) ∧ W.cell? ⟨gl, k * 2 + 1, none⟩ = some (.string (natB ld)) ∧ W.cell? ⟨gh, k * 2, none⟩ = some (.string (natB pn)) ∧ W.cell? ⟨gh, k * 2 + 1, none⟩ = some (.string (natB pd)) ∧ W.cell? ⟨b11, 0, none⟩ = some (.string (natB tn)) ∧ W.cell? ⟨b11, 1, none⟩ = some (.string (natB td))) := zqh fun W hb => ⟨(hb.cell (p := ⟨gl, k * 2, none⟩) g1l).trans s1, (hb.cell (p := ⟨gl, k * 2 + 1, none⟩) g1l).trans s2, (hb.cell (p := ⟨gh, k * 2, none⟩) g2l).trans s3, (hb.cell (p := ⟨gh, k * 2 + 1, none⟩) g2l).trans s4, (hb.cell (p := ⟨b11, 0, none⟩) g3l).trans s5, (hb.cell (p := ⟨b11, 1, none⟩) g3l).trans s6⟩
    refine wp_region_props (n := _) (PX := [zqu (.slice (some ⟨gl, 0, none⟩) M M),
       zqu (.int .i64 (k : Int)),
       zqu (.pointer (some ⟨gl, k * 2, none⟩)),
       zqu (.agg #[.string (natB ln), .string (natB ld)]),
       zqu (.slice (some ⟨gh, 0, none⟩) M M),
       zqu (.int .i64 (k : Int)),
       zqu (.pointer (some ⟨gh, k * 2, none⟩)),
       zqu (.agg #[.string (natB pn), .string (natB pd)]),
       zqu (.agg #[.string (natB sn), .string (natB sd)]),
       zqu (.agg #[.string (natB tn), .string (natB td)]),
       zqu (.bool true),
       zqu (.bool false)])
      (AL := []) (DP := [[], [], [0, 1], [2], [], [], [4, 5], [6], [3, 7], [], [8, 9], [10]]) (L1 := [0, 1, 2, 3, 4, 5, 6, 7, 8, 9, 10, 11]) (ex := []) (by kernel_rfl) rfl (by kernel_rfl) ?_ ?_ (fin0 ?_)
    ·refine zqg ?_ (zqg ?_ (zqg ?_ (zqg ?_ (zqg ?_ (zqg ?_ (zqg ?_ (zqg ?_ (zqg ?_ (zqg ?_ (zqg ?_ (zqg ?_ zqi)))))))))))
     iterate 12 exact fun _ _ _ _ h _ => h
    ·refine zqg ?_ (zqg ?_ (zqg ?_ (zqg ?_ (zqg ?_ (zqg ?_ (zqg ?_ (zqg ?_ (zqg ?_ (zqg ?_ (zqg ?_ (zqg ?_ zqi)))))))))))
     ·refine zso rfl [] ?_;intro vs W hW hd K hK;clear hd
      try simp only [putsD, Act.put, zqa, zqb, zqc, zqd, zqe, zqf] at hK ⊢
      go_simp
      exact hK.out _ _ rfl (zqr _ _) (zqv rfl)
     ·refine zso rfl [] ?_;intro vs W hW hd K hK;clear hd
      try simp only [putsD, Act.put, zqa, zqb, zqc, zqd, zqe, zqf] at hK ⊢
      go_simp
      exact hK.out _ _ rfl (zqr _ _) (zqv rfl)
     ·refine zso rfl [(0, some 99), (1, some 100)] ?_;intro vs W hW hd K hK;have d0 : vs 0 = .slice (some ⟨gl, 0, none⟩) M M := hd 0 (by decide);have d1 : vs 1 = .int .i64 (k : Int) := hd 1 (by decide);clear hd
      try simp only [d0, d1, putsD, Act.put, zqa, zqb, zqc, zqd, zqe, zqf] at hK ⊢
      obtain ⟨m1, m2, m3, m4, m5, m6⟩ := HS.out W hW
      go_simp
      exact hK.out _ _ rfl (zqr _ _) (zqv rfl)
     ·refine zso rfl [(2, some 101)] ?_;intro vs W hW hd K hK;have d2 : vs 2 = .pointer (some ⟨gl, k * 2, none⟩) := hd 2 (by decide);clear hd
      try simp only [d2, putsD, Act.put, zqa, zqb, zqc, zqd, zqe, zqf] at hK ⊢
      obtain ⟨m1, m2, m3, m4, m5, m6⟩ := HS.out W hW
      go_simp
      exact hK.out _ _ rfl (zqr _ _) (zqv rfl)
     ·refine zso rfl [] ?_;intro vs W hW hd K hK;clear hd
      try simp only [putsD, Act.put, zqa, zqb, zqc, zqd, zqe, zqf] at hK ⊢
      go_simp
      exact hK.out _ _ rfl (zqr _ _) (zqv rfl)
     ·refine zso rfl [] ?_;intro vs W hW hd K hK;clear hd
      try simp only [putsD, Act.put, zqa, zqb, zqc, zqd, zqe, zqf] at hK ⊢
      go_simp
      exact hK.out _ _ rfl (zqr _ _) (zqv rfl)
     ·refine zso rfl [(4, some 103), (5, some 104)] ?_;intro vs W hW hd K hK;have d4 : vs 4 = .slice (some ⟨gh, 0, none⟩) M M := hd 4 (by decide);have d5 : vs 5 = .int .i64 (k : Int) := hd 5 (by decide);clear hd
      try simp only [d4, d5, putsD, Act.put, zqa, zqb, zqc, zqd, zqe, zqf] at hK ⊢
      obtain ⟨m1, m2, m3, m4, m5, m6⟩ := HS.out W hW
      go_simp
      exact hK.out _ _ rfl (zqr _ _) (zqv rfl)
     ·refine zso rfl [(6, some 105)] ?_;intro vs W hW hd K hK;have d6 : vs 6 = .pointer (some ⟨gh, k * 2, none⟩) := hd 6 (by decide);clear hd
      try simp only [d6, putsD, Act.put, zqa, zqb, zqc, zqd, zqe, zqf] at hK ⊢
      obtain ⟨m1, m2, m3, m4, m5, m6⟩ := HS.out W hW
      go_simp
      exact hK.out _ _ rfl (zqr _ _) (zqv rfl)
     ·refine zso rfl [(3, some 102), (7, some 106)] ?_;intro vs W hW hd K hK;have d3 : vs 3 = .agg #[.string (natB ln), .string (natB ld)] := hd 3 (by decide);have d7 : vs 7 = .agg #[.string (natB pn), .string (natB pd)] := hd 7 (by decide);clear hd
      try simp only [d3, d7, putsD, Act.put, zqa, zqb, zqc, zqd, zqe, zqf] at hK ⊢
      go_simp
      go_at_call 27
      (with_reducible first | refine (HA2.out _).mono ?_)
      rintro e w9 ⟨rfl, hb9⟩;exact hK.out _ _ (rfl) hb9 (fun h => absurd h (by decide))
     ·refine zso rfl [] ?_;intro vs W hW hd K hK;clear hd
      try simp only [putsD, Act.put, zqa, zqb, zqc, zqd, zqe, zqf] at hK ⊢
      obtain ⟨m1, m2, m3, m4, m5, m6⟩ := HS.out W hW
      go_simp
      exact hK.out _ _ rfl (zqr _ _) (zqv rfl)
     ·refine zso rfl [(8, some 107), (9, some 108)] ?_;intro vs W hW hd K hK;have d8 : vs 8 = .agg #[.string (natB sn), .string (natB sd)] := hd 8 (by decide);have d9 : vs 9 = .agg #[.string (natB tn), .string (natB td)] := hd 9 (by decide);clear hd
      try simp only [d8, d9, putsD, Act.put, zqa, zqb, zqc, zqd, zqe, zqf] at hK ⊢
      go_simp
      go_at_call 26
      (with_reducible first | refine (HS2.out _).mono ?_)
      rintro e w9 ⟨rfl, hb9⟩;exact hK.out _ _ (rfl) hb9 (fun h => absurd h (by decide))
     ·refine zso rfl [(10, some 109)] ?_;intro vs W hW hd K hK;have d10 : vs 10 = .bool true := hd 10 (by decide);clear hd
      try simp only [d10, putsD, Act.put, zqa, zqb, zqc, zqd, zqe, zqf] at hK ⊢
      go_simp
      exact hK.out _ _ rfl (zqr _ _) (zqv rfl)
    refine FinOk.intro [(0, some 99), (1, some 100), (2, some 101), (3, some 102), (4, some 103), (5, some 104), (6, some 105), (7, some 106), (8, some 107), (9, some 108), (10, some 109), (11, some 110)] #[true, true, true, true, true, true, true, true, true, true, true, true] 0 (by kernel_rfl) (by kernel_rfl) (by kernel_rfl) ?_;intro vs Wf hW0 hd hbk hdis kf;have hW := zqw hW0;have d0 : vs 0 = .slice (some ⟨gl, 0, none⟩) M M := hd 0 (by decide);have d1 : vs 1 = .int .i64 (k : Int) := hd 1 (by decide);have d2 : vs 2 = .pointer (some ⟨gl, k * 2, none⟩) := hd 2 (by decide);have d3 : vs 3 = .agg #[.string (natB ln), .string (natB ld)] := hd 3 (by decide);have d4 : vs 4 = .slice (some ⟨gh, 0, none⟩) M M := hd 4 (by decide);have d5 : vs 5 = .int .i64 (k : Int) := hd 5 (by decide);have d6 : vs 6 = .pointer (some ⟨gh, k * 2, none⟩) := hd 6 (by decide);have d7 : vs 7 = .agg #[.string (natB pn), .string (natB pd)] := hd 7 (by decide);have d8 : vs 8 = .agg #[.string (natB sn), .string (natB sd)] := hd 8 (by decide);have d9 : vs 9 = .agg #[.string (natB tn), .string (natB td)] := hd 9 (by decide);have d10 : vs 10 = .bool true := hd 10 (by decide);have d11 : vs 11 = .bool false := hd 11 (by decide);clear hd hbk hdis hW0
    try simp only [d0, d1, d2, d3, d4, d5, d6, d7, d8, d9, d10, d11, putsD, Act.put, zqa, zqb, zqc, zqd, zqe, zqf]
    clear d0 d1 d2 d3 d4 d5 d6 d7 d8 d9 d10 d11 vs;clear HS;refine wpAny_end (by kernel_rfl) ?_ _
    all_goals
     try go_wp2
     go_meet
     exact ⟨rfl, hW⟩
   case rest =>
   obtain ⟨rfl, hb5⟩ := hcut;clear s1 s2 s3 s4 s5 s6 t1 t2 t3 t4
   go_wp2
   go_roundw
   case rel => exact ⟨k + 1, by omega, Nat.succ_le_of_lt HLT.out, by go_num, X4.out.below hb5⟩
   case measure => have := HLT.out; simp [intOf]; omega
  ·obtain rfl : k = M := by omega
   have hc : decide ((k : Int) ≤ N.n) = false := decide_eq_false (by have := HNN.out; have := HMN.out; omega);have X4 := zqh hq;clear hq hlt hk
   go_upto_region 15 with (fail)
   obtain ⟨W3, rfl⟩ : ∃ V, V = wr := ⟨wr, rfl⟩
   go_cut [17, 18] from 111 to 116 (fun p q wx => ∃ b17, p = .pointer (some ⟨b17, 0, none⟩) ∧ q = .int .i64 E1 ∧ Kp V1 [eRat b17 T1, ePrs gl k LP, ePrs gh k HP, eRat b11 T] wx)
   case first =>
    go_wp2_with (go_at_call 23; (with_reducible refine (HSN.out _ _ _ _ _ _ _ (HS1.out _ X4.out.bl) M1.out M2.out).mono ?_); rintro e w5 ⟨rfl, hb5⟩)
    all_goals
     go_meet
     exact ⟨w5.heap.size, rfl, rfl, Kp_same0 ((X4.out.below hb5).new _ _ w5.heap.size 2 rfl rfl) (ratF_arr T1.1 T1.2)⟩
   case rest =>
   obtain ⟨b17, rfl, rfl, hq⟩ := hcut;clear t1 t2 t3 t4 X4 HSN;obtain ⟨t1, t2, t3, t4⟩ := (HS1.out _ hq.bl).cells;have X5 := zqh hq;clear hq;obtain ⟨r1, r2⟩ := ratCells (X5.out.row 3 rfl);by_cases hT0 : T.1 = 0
   ·obtain ⟨hx0, hE1⟩ := HZ1.out hT0;subst hE1;clear hT0
    go_wp2_with (first
     | (go_at_call 28; (with_reducible refine (HTX.out _).mono ?_); rintro e w6 ⟨rfl, hb6⟩; replace X5 := zqh (X5.out.below hb6); clear hb6 t1 t2 t3 t4 r1 r2; obtain ⟨t1, t2, t3, t4⟩ := (HS1.out _ X5.out.bl).cells; obtain ⟨r1, r2⟩ := ratCells (X5.out.row 3 rfl))
     | (go_at_call 15; (with_reducible refine (works_any _ ((HS1.out _ X5.out.bl).tb)).mono ?_); rintro e w7 ⟨rfl, hb7⟩; have X6 := zqh (X5.out.below hb7)))
    all_goals
     go_ret
     exact ⟨rfl, zqx BL1.out X6.out.bl BL1.out.size⟩
   ·obtain ⟨hx0, hE1⟩ := HZ2.out hT0;subst hE1;have HT0 := zqh hT0;clear hT0;by_cases hn0 : n = 0
    ·have hnz : (N.n == 0) = true := by have := HNN.out; rw [this, hn0]; rfl
     clear hn0
     go_wp2_with (first
     | (go_at_call 28; (with_reducible refine (HTX.out _).mono ?_); rintro e w6 ⟨rfl, hb6⟩; replace X5 := zqh (X5.out.below hb6); clear hb6 t1 t2 t3 t4 r1 r2; obtain ⟨t1, t2, t3, t4⟩ := (HS1.out _ X5.out.bl).cells; obtain ⟨r1, r2⟩ := ratCells (X5.out.row 3 rfl))
     | (go_at_call 15; (with_reducible refine (works_any _ ((HS1.out _ X5.out.bl).tb)).mono ?_); rintro e w7 ⟨rfl, hb7⟩; have X6 := zqh (X5.out.below hb7)))
     all_goals
      go_ret
      exact ⟨rfl, zqx BL1.out X6.out.bl BL1.out.size⟩
    ·have hnz : (N.n == 0) = false := by have := HNN.out; rw [this]; simp; omega
     have HN0 := zqh hn0;clear hn0
     go_upto_region 18 with (first
     | (go_at_call 28; (with_reducible refine (HTX.out _).mono ?_); rintro e w6 ⟨rfl, hb6⟩; replace X5 := zqh (X5.out.below hb6); clear hb6 t1 t2 t3 t4 r1 r2; obtain ⟨t1, t2, t3, t4⟩ := (HS1.out _ X5.out.bl).cells; obtain ⟨r1, r2⟩ := ratCells (X5.out.row 3 rfl))
     | (go_at_call 15; (with_reducible refine (works_any _ ((HS1.out _ X5.out.bl).tb)).mono ?_); rintro e w7 ⟨rfl, hb7⟩; have X6 := zqh (X5.out.below hb7)))
     obtain ⟨m, hm⟩ : ∃ m, mo % n = m := ⟨_, rfl⟩
     have hmn : m < n := by have := HN0.out; rw [← hm]; exact Nat.mod_lt _ (by omega)
     have hnz2 : ¬ N.n = 0 := by simpa using hnz
     have hrem : ((mo : Int)).tmod N.n = (m : Int) := by have := HNN.out; rw [this, ← hm]; rfl
     have hcv : IntKind.i64.wrap (mo : Int) = (mo : Int) := by have := HMO.out; rw [IntKind.wrap_i64]; omega
     have hn128 : n ≤ 128 := by have := HMN.out; omega
     have had : IntKind.i64.wrap (1 + (m : Int)) = 1 + (m : Int) := by rw [IntKind.wrap_i64]; omega
     have HMM := zqh hmn;clear hm
     go_cut [19] from 135 to 140 (fun p wx => ∃ v : Nat, p = .int .i64 (v : Int) ∧ Hid (v = m + 1) ∧ Kp V1 [eRat b17 T1, ePrs gl k LP, ePrs gh k HP, eRat b11 T] wx)
     case first =>
      go_wp2
      go_meet
      exact ⟨m + 1, congrArg (Value.int .i64) (by omega), zqh rfl, X5.out⟩
     case rest =>
     obtain ⟨v, rfl, HV, hq⟩ := hcut;obtain ⟨V5, rfl⟩ : ∃ V, V = wc := ⟨wc, rfl⟩;clear t1 t2 t3 t4 hrem hcv had r1 r2 hx0;obtain ⟨t1, t2, t3, t4⟩ := (HS1.out _ hq.bl).cells;have X6 := zqh hq;clear hq X5
     go_wp2_with fail
     go_loopw [20, 21] (fun s tv wr => ∃ (u : Nat), 1 ≤ u ∧ u ≤ n + 1 ∧ tv = .int .i64 (u : Int) ∧ wr.ownsRow V5.heap.size 3 1 s (tmA v pk sg (u - 1)).length ((tmA v pk sg (u - 1)).map fun x => .int .i64 x) ∧ Below V5.heap.size V5 wr) (fun _ tv _ => n + 1 - (intOf tv).toNat)
     case atStart => exact ⟨1, zqn _, by omega, rfl, World.ownsRow_nil _ _ _ _, zqr _ _⟩
     case round =>
      obtain ⟨u, hu1, hu, rfl, hown, hb6⟩ := hrel;clear t1 t2 t3 t4;obtain ⟨t1, t2, t3, t4⟩ := (HS1.out _ (zqx X6.out.bl hb6 X6.out.bl.size)).cells;by_cases hlt : u < n + 1
      ·have hc : decide ((u : Int) ≤ N.n) = true := decide_eq_true (by have := HNN.out; omega);have HLT := zqh hlt;obtain ⟨j, hj⟩ : ∃ j, u = j + 1 := ⟨u - 1, by omega⟩
       have hsj : (u : Int) - 1 = (j : Int) := by omega
       have HU := zqh hj;have OW := zqh hown;have B6 := zqh hb6
       have huN : u ≤ 128 := by have := HMN.out; omega
       have hmj : min j 8 = j := by have := HN8.out; have := HLT.out; omega
       have TML := zqh (tmA_len v pk sg (u - 1));clear hj hown hb6 hlt;by_cases huv : u = v
       ·subst huv;have htm : tmA u pk sg u = tmA u pk sg (u - 1) := tmA_same HU.out (fun h => h.1 rfl);have HTM := zqh htm;clear htm
        go_wp2
        go_roundw
        case rel => exact ⟨u + 1, by omega, Nat.succ_le_of_lt HLT.out, by go_num, by rw [Nat.add_sub_cancel, HTM.out]; exact OW.out, B6.out⟩
        case measure => have := HLT.out; simp [intOf]; omega
       ·have hne : ((u : Int) != (v : Int)) = true := by simp; omega
        have hne2 : ¬ ((u : Int) = (v : Int)) := by omega
        cases hpb : pk.testBit j with
        | false =>
          have hbp : bits BinOp.and IntKind.u8 ((pk : Int) / 2 ^ j) 1 = 0 := by rw [byte_and pk j HPK.out]; have := hpb; rw [Nat.testBit_eq_decide_div_mod_eq] at this; simp at this; omega
          have htm : tmA v pk sg u = tmA v pk sg (u - 1) := tmA_same HU.out (fun h => by rw [hpb] at h; exact absurd h.2 (by decide));have HTM := zqh htm;clear htm hpb
          go_wp2
          go_roundw
          case rel => exact ⟨u + 1, by omega, Nat.succ_le_of_lt HLT.out, by go_num, by rw [Nat.add_sub_cancel, HTM.out]; exact OW.out, B6.out⟩
          case measure => have := HLT.out; simp [intOf]; omega
        | true =>
          have hbp : bits BinOp.and IntKind.u8 ((pk : Int) / 2 ^ j) 1 = 1 := by rw [byte_and pk j HPK.out]; have := hpb; rw [Nat.testBit_eq_decide_div_mod_eq] at this; simp at this; omega
          obtain ⟨i0, hi0, hz0, hz1, hz2⟩ := info_parts info_int';cases hsb : sg.testBit j with
          | false =>
            have hbs : bits BinOp.and IntKind.u8 ((sg : Int) / 2 ^ j) 1 = 0 := by rw [byte_and sg j HSG.out]; have := hsb; rw [Nat.testBit_eq_decide_div_mod_eq] at this; simp at this; omega
            have hx1 : IntKind.i64.wrap ((u : Int) - 0) = (u : Int) := by rw [IntKind.wrap_i64]; omega
            have hx2 : IntKind.i64.wrap (u : Int) = (u : Int) := by rw [IntKind.wrap_i64]; omega
            have hx3 : IntKind.i64.wrap (2 * (u : Int)) = 2 * (u : Int) := by rw [IntKind.wrap_i64]; omega
            have htm : tmA v pk sg u = tmA v pk sg (u - 1) ++ [(u : Int)] := by
             have e := tmA_step (v := v) (pk := pk) (sg := sg) HU.out (fun h => huv h) hpb;rw [hsb] at e;exact e
            have HTM := zqh htm;clear htm hsb hpb
            go_wp2_with (
             at_builtin
             go_loud (refine wpList_append_own _ rfl _ _ 26 rfl V5.heap.size 3 i0 (.int .i64 0) 1 8 Tryz.underlying26 hi0 hz0 hz1 hz2 rfl (by decide) _ _ _ rfl (OW.out.alloc _) ⟨wr.heap.size, 0, none⟩ 1 1 [.int .i64 (u : Int)] ?qa0 rfl ?qa1 oneI (by have := TML.out; unfold maxLen; omega) (by have := TML.out; omega) (by have := B6.out.size; simp; omega) ?_)
             case qa0 => rfl
             case qa1 => exact cell_one_new _ _ _
             intro v' w3 hown3 hgr3 _)
            go_roundw
            case rel => exact ⟨u + 1, by omega, Nat.succ_le_of_lt HLT.out, by go_num, by rw [Nat.add_sub_cancel, HTM.out, List.length_append, List.map_append]; exact hown3, (B6.out.alloc B6.out.size _).grown hgr3 (by have := B6.out.size; simp; omega) (fun b hb => (OW.out.lt b hb).1)⟩
            case measure => have := HLT.out; simp [intOf]; omega
          | true =>
            have hbs : bits BinOp.and IntKind.u8 ((sg : Int) / 2 ^ j) 1 = 1 := by rw [byte_and sg j HSG.out]; have := hsb; rw [Nat.testBit_eq_decide_div_mod_eq] at this; simp at this; omega
            have hx1 : IntKind.i64.wrap ((u : Int) - 2 * (u : Int)) = (-(u : Int)) := by rw [IntKind.wrap_i64]; omega
            have hx2 : IntKind.i64.wrap (u : Int) = (u : Int) := by rw [IntKind.wrap_i64]; omega
            have hx3 : IntKind.i64.wrap (2 * (u : Int)) = 2 * (u : Int) := by rw [IntKind.wrap_i64]; omega
            have htm : tmA v pk sg u = tmA v pk sg (u - 1) ++ [(-(u : Int))] := by
             have e := tmA_step (v := v) (pk := pk) (sg := sg) HU.out (fun h => huv h) hpb;rw [hsb] at e;exact e
            have HTM := zqh htm;clear htm hsb hpb
            go_wp2_with (
             at_builtin
             go_loud (refine wpList_append_own _ rfl _ _ 26 rfl V5.heap.size 3 i0 (.int .i64 0) 1 8 Tryz.underlying26 hi0 hz0 hz1 hz2 rfl (by decide) _ _ _ rfl (OW.out.alloc _) ⟨wr.heap.size, 0, none⟩ 1 1 [.int .i64 (-(u : Int))] ?qa0 rfl ?qa1 oneI (by have := TML.out; unfold maxLen; omega) (by have := TML.out; omega) (by have := B6.out.size; simp; omega) ?_)
             case qa0 => rfl
             case qa1 => exact cell_one_new _ _ _
             intro v' w3 hown3 hgr3 _)
            go_roundw
            case rel => exact ⟨u + 1, by omega, Nat.succ_le_of_lt HLT.out, by go_num, by rw [Nat.add_sub_cancel, HTM.out, List.length_append, List.map_append]; exact hown3, (B6.out.alloc B6.out.size _).grown hgr3 (by have := B6.out.size; simp; omega) (fun b hb => (OW.out.lt b hb).1)⟩
            case measure => have := HLT.out; simp [intOf]; omega
      ·have hun : u - 1 = n := by omega
       have hc : decide ((u : Int) ≤ N.n) = false := decide_eq_false (by have := HNN.out; omega);rw [hun] at hown;clear hun
       have hv1 : 1 ≤ v := by have := HV.out; omega
       have hv2 : v ≤ n := by have := HV.out; have := HMM.out; omega
       have htl := tmA_len v pk sg n;obtain ⟨htb1, htb2, htb3⟩ := tmA_ok (n := n) (v := v) (pk := pk) (sg := sg) hn128 hv1 hv2;obtain ⟨TM, hTM⟩ : ∃ l, tmA v pk sg n = l := ⟨_, rfl⟩;rw [hTM] at hown htl htb1 htb2 htb3;rw [← HNN.out] at htb1 htb2 htb3;obtain ⟨At, ct2, rfl, hrd⟩ := own_ints hown rfl rfl;have TML := zqh (show TM.length ≤ 128 by omega);have hrg := fun (ht : termB N.n TM = true) => termB_r64 HNN.out hn128 ht;obtain ⟨S, hsS, hsS2⟩ := HSA.out HT0.out TM v hv1 hv2;have hs1' := fun W b9 b10 g1 c1 g2 c2 h m1 m2 At ct => HSH.out HT0.out W b9 b10 g1 c1 g2 c2 h m1 m2 TM At ct (by omega) htb1 (termB_r64 HNN.out hn128 htb1);have hs2' := fun W b9 b10 g1 c1 g2 c2 h m1 m2 At ct => HSH.out HT0.out W b9 b10 g1 c1 g2 c2 h m1 m2 (TM ++ [(v : Int)]) At ct (by simp; omega) htb2 (termB_r64 HNN.out hn128 htb2);have hs3' := fun W b9 b10 g1 c1 g2 c2 h m1 m2 At ct => HSH.out HT0.out W b9 b10 g1 c1 g2 c2 h m1 m2 ([-(v : Int), -(v : Int)] ++ TM) At ct (by simp; omega) htb3 (termB_r64 HNN.out hn128 htb3);have hto1 := HTX1.out HT0.out;obtain ⟨⟨pa, pb⟩, hpp⟩ : ∃ p, SP TM = p := ⟨_, rfl⟩;obtain ⟨⟨qa, qb⟩, hqq⟩ : ∃ p, SP (TM ++ [(v : Int)]) = p := ⟨_, rfl⟩;obtain ⟨⟨ra, rb⟩, hrr⟩ : ∃ p, SP ([-(v : Int), -(v : Int)] ++ TM) = p := ⟨_, rfl⟩;obtain ⟨⟨oa, ob⟩, hoo⟩ : ∃ p, T1 = p := ⟨_, rfl⟩;obtain ⟨sn, sd⟩ := S;rw [hpp] at hsS2 hs1';rw [hqq] at hsS hs2';rw [hrr] at hsS hs3';rw [hoo] at hto1;have HTO1 := zqh hto1;have HA3 := zqh hsS;have HS3 := zqh hsS2;have HP1 := zqh hs1';have HP2 := zqh hs2';have HP3 := zqh hs3';have HRD := zqh hrd;have HOT := zqh hown;have X7 := zqh (X6.out.below hb6);clear hown hb6 hu1 hu hlt hv1 hv2 htl htb1 htb2 htb3 hTM hrd hrg hsS hsS2 hs1' hs2' hs3' hto1 hpp hqq hrr X6 HSA HSH HTX1;subst hoo
       go_upto_region 25 with (fail)
       go_cut [22, 23] from 174 to 180 (fun p q wx => ∃ b22, p = .pointer (some ⟨b22, 0, none⟩) ∧ q = .int .i64 0 ∧ Kp V1 [eRat b22 (pa, pb), eRat b17 (oa, ob), ePrs gl k LP, ePrs gh k HP, eRat b11 T] wx ∧ Below wr.heap.size wr wx)
       case first =>
        go_wp2_with (go_at_call 23; (with_reducible refine (HP1.out _ _ _ _ _ _ _ (HS1.out _ X7.out.bl) M1.out M2.out _ _ HRD.out).mono ?_); rintro e w8 ⟨rfl, hb8⟩)
        all_goals
         go_meet
         exact ⟨w8.heap.size, rfl, rfl, Kp_same0 ((X7.out.below hb8).new _ _ w8.heap.size 2 rfl rfl) (ratF_arr pa pb), hb8.alloc hb8.size _⟩
       case rest =>
       obtain ⟨b22, rfl, rfl, hq, hb8⟩ := hcut;clear t1 t2 t3 t4 X7 HP1;replace HOT := zqh (ownsBelow HOT.out hb8);clear HRD hb8;obtain ⟨V6, rfl⟩ : ∃ V, V = wc := ⟨wc, rfl⟩;have X8 := zqh hq;clear hq
       go_upto_region 26 with (fail)
       go_cut [24, 25] from 181 to 192 (fun p q wx => ∃ b24, p = .pointer (some ⟨b24, 0, none⟩) ∧ q = .int .i64 0 ∧ Kp V1 [eRat b24 (qa, qb), eRat b22 (pa, pb), eRat b17 (oa, ob), ePrs gl k LP, ePrs gh k HP, eRat b11 T] wx ∧ Below V6.heap.size V6 wx)
       case first =>
        obtain ⟨s1, s2, s3, s4⟩ := (HS1.out _ X8.out.bl).cells;have gb9 := World.block_lt_of_cell? _ _ s1;have gb10 := World.block_lt_of_cell? _ _ s3;have HSQ := zqh (fun W (hW : Below V6.heap.size V6 W) At ct hr => HP2.out W _ _ _ _ _ _ (HS1.out W (zqx X8.out.bl hW X8.out.bl.size)) M1.out M2.out At ct hr);obtain ⟨TS, hTS⟩ : ∃ l, TM ++ [(v : Int)] = l := ⟨_, rfl⟩;rw [hTS] at HSQ;have HTS := zqh hTS;clear hTS;have HS : Hid (∀ W, Below V6.heap.size V6 W → W.cell? ⟨b9, 0, none⟩ = some (.int .i64 N.n) ∧ W.cell? ⟨b9, 1, none⟩ = some (.slice A N.l.length c) ∧ W.cell? ⟨b10, 0, none⟩ = some (.slice (some ⟨g1, 0, none⟩) k c1) ∧ W.cell? ⟨b10, 1, none⟩ = some (.slice (some ⟨g2, 0, none⟩) k c2)) := zqh fun W hb => ⟨(hb.cell (p := ⟨b9, 0, none⟩) gb9).trans s1, (hb.cell (p := ⟨b9, 1, none⟩) gb9).trans s2, (hb.cell (p := ⟨b10, 0, none⟩) gb10).trans s3, (hb.cell (p := ⟨b10, 1, none⟩) gb10).trans s4⟩
        refine wp_region_own (n := _) (PX := [zqu (.agg #[.int .i64 N.n, .slice A N.l.length c]),
           zqu (.agg #[.slice (some ⟨g1, 0, none⟩) k c1, .slice (some ⟨g2, 0, none⟩) k c2]),
           fun xl xv xw => World.ownsRow xw V6.heap.size 3 1 xv 0 [],
           zqu (.slice At TM.length ct2),
           fun xl xv xw => World.ownsRow xw V6.heap.size 3 1 xv (0 + TM.length) ([] ++ ((TM).map fun x => .int .i64 x)),
           zqu (.int .i64 (v : Int)),
           fun xl xv xw => World.ownsRow xw V6.heap.size 3 1 xv 1 [.int .i64 (v : Int)],
           fun xl xv xw => World.ownsRow xw V6.heap.size 3 1 xv ((0 + TM.length) + 1) (([] ++ ((TM).map fun x => .int .i64 x)) ++ [.int .i64 (v : Int)]),
           zqu (.tuple #[.agg #[.string (natB qa), .string (natB qb)], .int .i64 0]),
           zqu (.tuple #[.agg #[.string (natB qa), .string (natB qb)], .int .i64 0]),
           zqu (.agg #[.string (natB qa), .string (natB qb)]),
           zqu (.int .i64 0),
           fun xl xv xw => ∃ X, xv = .pointer (some ⟨X, 0, none⟩) ∧ V6.heap.size ≤ X ∧ World.rowIs xw X 33 2 (arrF #[.string ⟨#[]⟩, .string ⟨#[]⟩]),
           fun xl xv xw => xv = xl.headD undef ∧ ∃ X, xv = .pointer (some ⟨X, 0, none⟩) ∧ V6.heap.size ≤ X ∧ World.rowIs xw X 33 2 (arrF #[.string (natB qa), .string (natB qb)]),
           zqu (.int .i64 0)])
          (AL := [2, 4, 6, 7, 12, 13]) (KL := [(4, 2), (7, 4), (13, 12)]) (DP := [[], [], [], [], [2, 3], [], [5], [4, 6], [0, 1, 7], [8], [9], [9], [], [12, 10], [11]]) (L1 := [0, 1, 2, 3, 4, 5, 6, 7, 8, 9, 10, 11, 12, 13, 14]) (ex := []) (by kernel_rfl) rfl (by kernel_rfl) (by kernel_rfl) ?_ ?_ ?_ (fun bs hbs => ?_)
        ·intro i hi
         match i, hi with
         | 0, hi => exact fun _ _ _ _ h => h
         | 1, hi => exact fun _ _ _ _ h => h
         | 2, hi => exact absurd hi (by decide)
         | 3, hi => exact fun _ _ _ _ h => h
         | 4, hi => exact absurd hi (by decide)
         | 5, hi => exact fun _ _ _ _ h => h
         | 6, hi => exact absurd hi (by decide)
         | 7, hi => exact absurd hi (by decide)
         | 8, hi => exact fun _ _ _ _ h => h
         | 9, hi => exact fun _ _ _ _ h => h
         | 10, hi => exact fun _ _ _ _ h => h
         | 11, hi => exact fun _ _ _ _ h => h
         | 12, hi => exact absurd hi (by decide)
         | 13, hi => exact absurd hi (by decide)
         | 14, hi => exact fun _ _ _ _ h => h
         | i + 15, _ => exact fun _ _ _ _ _ => trivial
        ·intro i hi
         match i, hi with
         | 0, hi => exact absurd hi (by decide)
         | 1, hi => exact absurd hi (by decide)
         | 2, hi => exact fun l v w w2 h _ hb => own_loc h hb
         | 3, hi => exact absurd hi (by decide)
         | 4, hi => exact fun l v w w2 h _ hb => own_loc h hb
         | 5, hi => exact absurd hi (by decide)
         | 6, hi => exact fun l v w w2 h _ hb => own_loc h hb
         | 7, hi => exact fun l v w w2 h _ hb => own_loc h hb
         | 8, hi => exact absurd hi (by decide)
         | 9, hi => exact absurd hi (by decide)
         | 10, hi => exact absurd hi (by decide)
         | 11, hi => exact absurd hi (by decide)
         | 12, hi => exact fun l v w w2 h _ hb => by obtain ⟨X, h1, h2, h3⟩ := h; subst h1; exact ⟨X, rfl, h2, row_loc h3 hb⟩
         | 13, hi => exact fun l v w w2 h _ hb => by obtain ⟨h0, X, h1, h2, h3⟩ := h; subst h1; exact ⟨h0, X, rfl, h2, row_loc h3 hb⟩
         | 14, hi => exact absurd hi (by decide)
         | i + 15, _ => exact fun _ _ _ _ _ _ _ => trivial
        ·refine zqg ?_ (zqg ?_ (zqg ?_ (zqg ?_ (zqg ?_ (zqg ?_ (zqg ?_ (zqg ?_ (zqg ?_ (zqg ?_ (zqg ?_ (zqg ?_ (zqg ?_ (zqg ?_ (zqg ?_ zqi))))))))))))))
         ·refine StepO.intro rfl [] (by kernel_rfl) ?_;intro vs W hW0 hd K hK;have hW := zqw hW0;clear hd
          try simp only [putsD, Act.put, zqa, zqb, zqc, zqd, zqe, zqf] at hK ⊢
          obtain ⟨m1, m2, m3, m4⟩ := HS.out W hW
          go_simp
          exact hK.out _ _ rfl (rl_same rfl rfl)
         ·refine StepO.intro rfl [] (by kernel_rfl) ?_;intro vs W hW0 hd K hK;have hW := zqw hW0;clear hd
          try simp only [putsD, Act.put, zqa, zqb, zqc, zqd, zqe, zqf] at hK ⊢
          obtain ⟨m1, m2, m3, m4⟩ := HS.out W hW
          go_simp
          exact hK.out _ _ rfl (rl_same rfl rfl)
         ·refine StepO.intro rfl [] (by kernel_rfl) ?_;intro vs W hW0 hd K hK;have hW := zqw hW0;clear hd
          try simp only [putsD, Act.put, zqa, zqb, zqc, zqd, zqe, zqf] at hK ⊢
          go_simp
          exact hK.out _ _ (World.ownsRow_lit W #[] 0 hW.size (by decide) rfl) (rl_new rfl _ rfl)
         ·refine StepO.intro rfl [] (by kernel_rfl) ?_;intro vs W hW0 hd K hK;have hW := zqw hW0;clear hd
          try simp only [putsD, Act.put, zqa, zqb, zqc, zqd, zqe, zqf] at hK ⊢
          go_simp
          exact hK.out _ _ rfl (rl_same rfl rfl)
         ·refine StepO.intro rfl [(2, some 184), (3, some 185)] (by kernel_rfl) ?_;intro vs W hW0 hd K hK;have hW := zqw hW0;have o2 : World.ownsRow W V6.heap.size 3 1 (vs 2) 0 [] := hd 2 (by decide);have d3 : (vs 3) = .slice At TM.length ct2 := hd 3 (by decide);clear hd
          try simp only [d3, putsD, Act.put, zqa, zqb, zqc, zqd, zqe, zqf] at hK ⊢
          obtain ⟨v', W', hrun, t1, t2, t3⟩ := app_int W V6.heap.size hW.size (vs 2) _ _ o2 _ (.slice At TM.length ct2) _ _ (ownsBelow HOT.out hW) (ints_one TM) (by have := TML.out; omega);refine wp_append rfl rfl rfl rfl hrun ?_;exact hK.out _ _ t1 (rl_app (by decide) rfl o2 t1 t2 t3)
         ·refine StepO.intro rfl [] (by kernel_rfl) ?_;intro vs W hW0 hd K hK;have hW := zqw hW0;clear hd
          try simp only [putsD, Act.put, zqa, zqb, zqc, zqd, zqe, zqf] at hK ⊢
          go_simp
          exact hK.out _ _ rfl (rl_same rfl rfl)
         ·refine StepO.intro rfl [(5, some 187)] (by kernel_rfl) ?_;intro vs W hW0 hd K hK;have hW := zqw hW0;have d5 : (vs 5) = .int .i64 (v : Int) := hd 5 (by decide);clear hd
          try simp only [d5, putsD, Act.put, zqa, zqb, zqc, zqd, zqe, zqf] at hK ⊢
          go_simp
          exact hK.out _ _ (World.ownsRow_lit W #[.int .i64 (v : Int)] 1 hW.size (by decide) rfl) (rl_new rfl _ rfl)
         ·refine StepO.intro rfl [(4, some 186), (6, some 188)] (by kernel_rfl) ?_;intro vs W hW0 hd K hK;have hW := zqw hW0;have o4 : World.ownsRow W V6.heap.size 3 1 (vs 4) (0 + TM.length) ([] ++ ((TM).map fun x => .int .i64 x)) := hd 4 (by decide);have o6 : World.ownsRow W V6.heap.size 3 1 (vs 6) 1 [.int .i64 (v : Int)] := hd 6 (by decide);clear hd
          try simp only [putsD, Act.put, zqa, zqb, zqc, zqd, zqe, zqf] at hK ⊢
          obtain ⟨v', W', hrun, t1, t2, t3⟩ := app_int W V6.heap.size hW.size (vs 4) _ _ o4 V6.heap.size ((vs 6)) _ _ (o6) (oneI) (by have := TML.out; omega);refine wp_append rfl rfl rfl rfl hrun ?_;exact hK.out _ _ t1 (rl_app (by decide) rfl o4 t1 t2 t3)
         ·refine StepO.intro rfl [(0, some 182), (1, some 183), (7, some 189)] (by kernel_rfl) ?_;intro vs W hW0 hd K hK;have hW := zqw hW0;have d0 : (vs 0) = .agg #[.int .i64 N.n, .slice A N.l.length c] := hd 0 (by decide);have d1 : (vs 1) = .agg #[.slice (some ⟨g1, 0, none⟩) k c1, .slice (some ⟨g2, 0, none⟩) k c2] := hd 1 (by decide);have o7 : World.ownsRow W V6.heap.size 3 1 (vs 7) ((0 + TM.length) + 1) (([] ++ ((TM).map fun x => .int .i64 x)) ++ [.int .i64 (v : Int)]) := hd 7 (by decide);clear hd
          try simp only [d0, d1, putsD, Act.put, zqa, zqb, zqc, zqd, zqe, zqf] at hK ⊢
          obtain ⟨At9, ct9, e9, hr9⟩ := own_ints o7 (ts := TS) (by rw [← HTS.out]; simp) (by rw [← HTS.out]; simp);simp only [e9] at hK ⊢
          go_simp
          go_at_call 23
          (with_reducible refine (HSQ.out W hW At9 ct9 hr9).mono ?_)
          rintro e w9 ⟨rfl, hb9⟩;exact hK.out _ _ rfl (rl_below rfl rfl hb9)
         ·refine StepO.intro rfl [(8, some 190)] (by kernel_rfl) ?_;intro vs W hW0 hd K hK;have hW := zqw hW0;have d8 : (vs 8) = .tuple #[.agg #[.string (natB qa), .string (natB qb)], .int .i64 0] := hd 8 (by decide);clear hd
          try simp only [d8, putsD, Act.put, zqa, zqb, zqc, zqd, zqe, zqf] at hK ⊢
          go_simp
          exact hK.out _ _ rfl (rl_same rfl rfl)
         ·refine StepO.intro rfl [(9, some 181)] (by kernel_rfl) ?_;intro vs W hW0 hd K hK;have hW := zqw hW0;have d9 : (vs 9) = .tuple #[.agg #[.string (natB qa), .string (natB qb)], .int .i64 0] := hd 9 (by decide);clear hd
          try simp only [d9, putsD, Act.put, zqa, zqb, zqc, zqd, zqe, zqf] at hK ⊢
          go_simp
          exact hK.out _ _ rfl (rl_same rfl rfl)
         ·refine StepO.intro rfl [(9, some 181)] (by kernel_rfl) ?_;intro vs W hW0 hd K hK;have hW := zqw hW0;have d9 : (vs 9) = .tuple #[.agg #[.string (natB qa), .string (natB qb)], .int .i64 0] := hd 9 (by decide);clear hd
          try simp only [d9, putsD, Act.put, zqa, zqb, zqc, zqd, zqe, zqf] at hK ⊢
          go_simp
          exact hK.out _ _ rfl (rl_same rfl rfl)
         ·refine StepO.intro rfl [] (by kernel_rfl) ?_;intro vs W hW0 hd K hK;have hW := zqw hW0;clear hd
          try simp only [putsD, Act.put, zqa, zqb, zqc, zqd, zqe, zqf] at hK ⊢
          go_simp
          exact hK.out _ _ ⟨W.heap.size, rfl, hW.size, arrNew _ _ _ _ _ rfl rfl⟩ (rl_new rfl _ rfl)
         ·refine StepO.intro rfl [(12, some 24), (10, some 191)] (by kernel_rfl) ?_;intro vs W hW0 hd K hK;have hW := zqw hW0;obtain ⟨X12, d12, b12, r12⟩ : ∃ X, (vs 12) = .pointer (some ⟨X, 0, none⟩) ∧ V6.heap.size ≤ X ∧ World.rowIs W X 33 2 (arrF #[.string ⟨#[]⟩, .string ⟨#[]⟩]) := hd 12 (by decide);have d10 : (vs 10) = .agg #[.string (natB qa), .string (natB qb)] := hd 10 (by decide);clear hd
          try simp only [d12, d10, putsD, Act.put, zqa, zqb, zqc, zqd, zqe, zqf] at hK ⊢
          have l12 := r12.lt;have y12_0 := r12.frozen 0;have k12_0 := r12.cell (i := 0) (by decide);have y12_1 := r12.frozen 1;have k12_1 := r12.cell (i := 1) (by decide)
          go_simp
          exact hK.out (.pointer (some ⟨X12, 0, none⟩)) _ ⟨d12.symm, X12, rfl, b12, (pairRow r12 _ _)⟩ (rl_store (by decide) (d12) rfl ((grown_set _ _ _ _).trans (grown_set _ _ _ _)) (by simp; exact r12.lt))
         ·refine StepO.intro rfl [(11, some 192)] (by kernel_rfl) ?_;intro vs W hW0 hd K hK;have hW := zqw hW0;have d11 : (vs 11) = .int .i64 0 := hd 11 (by decide);clear hd
          try simp only [d11, putsD, Act.put, zqa, zqb, zqc, zqd, zqe, zqf] at hK ⊢
          go_simp
          exact hK.out _ _ rfl (rl_same rfl rfl)
        obtain rfl : bs = [] := List.eq_nil_of_length_eq_zero hbs;refine FinO.intro [(0, some 182), (1, some 183), (2, some 184), (3, some 185), (4, some 186), (5, some 187), (6, some 188), (7, some 189), (8, some 190), (9, some 181), (10, some 191), (11, some 192), (12, some 24), (13, none), (14, some 25)] #[true, true, true, true, true, true, true, true, true, true, true, true, true, true, true] 0 (by kernel_rfl) (by kernel_rfl) (by kernel_rfl) ?_;intro vs Wf hI kf;have hW : Below V6.heap.size V6 Wf := zqx (belowDrewN (zqr _ _) 1) hI.bl (zqn _);have d0 : (vs 0) = .agg #[.int .i64 N.n, .slice A N.l.length c] := hI.px 0 (by decide) (alive_of (by decide));have d1 : (vs 1) = .agg #[.slice (some ⟨g1, 0, none⟩) k c1, .slice (some ⟨g2, 0, none⟩) k c2] := hI.px 1 (by decide) (alive_of (by decide));have d3 : (vs 3) = .slice At TM.length ct2 := hI.px 3 (by decide) (alive_of (by decide));have d5 : (vs 5) = .int .i64 (v : Int) := hI.px 5 (by decide) (alive_of (by decide));have o6 : World.ownsRow Wf V6.heap.size 3 1 (vs 6) 1 [.int .i64 (v : Int)] := hI.px 6 (by decide) (alive_of (by decide));have o7 : World.ownsRow Wf V6.heap.size 3 1 (vs 7) ((0 + TM.length) + 1) (([] ++ ((TM).map fun x => .int .i64 x)) ++ [.int .i64 (v : Int)]) := hI.px 7 (by decide) (alive_of (by decide));have d8 : (vs 8) = .tuple #[.agg #[.string (natB qa), .string (natB qb)], .int .i64 0] := hI.px 8 (by decide) (alive_of (by decide));have d9 : (vs 9) = .tuple #[.agg #[.string (natB qa), .string (natB qb)], .int .i64 0] := hI.px 9 (by decide) (alive_of (by decide));have d10 : (vs 10) = .agg #[.string (natB qa), .string (natB qb)] := hI.px 10 (by decide) (alive_of (by decide));have d11 : (vs 11) = .int .i64 0 := hI.px 11 (by decide) (alive_of (by decide));obtain ⟨e13, X13, d13, b13, r13⟩ : (vs 13) = vs 12 ∧ ∃ X, (vs 13) = .pointer (some ⟨X, 0, none⟩) ∧ V6.heap.size ≤ X ∧ World.rowIs Wf X 33 2 (arrF #[.string (natB qa), .string (natB qb)]) := hI.px 13 (by decide) (alive_of (by decide));have d14 : (vs 14) = .int .i64 0 := hI.px 14 (by decide) (alive_of (by decide));have f13 : vs 12 = .pointer (some ⟨X13, 0, none⟩) := e13.symm.trans d13;obtain ⟨u6, hu6⟩ : ∃ u, vs 6 = u := ⟨_, rfl⟩;rw [hu6] at o6;obtain ⟨u7, hu7⟩ : ∃ u, vs 7 = u := ⟨_, rfl⟩;rw [hu7] at o7;clear hI
        try simp only [d0, d1, d3, d5, d8, d9, d10, d11, d13, d14, f13, hu6, hu7, putsD, Act.put, zqa, zqb, zqc, zqd, zqe, zqf]
        clear d0 d1 d3 d5 d8 d9 d10 d11 d13 d14 f13 hu6 hu7 e13;clear HS;refine wpAny_end (by kernel_rfl) ?_ _
        all_goals
         try go_wp2
         go_meet
         exact ⟨X13, rfl, rfl, Kp_same0 ((X8.out.below hW).add r13) (ratF_arr qa qb), hW⟩
       case rest =>
       obtain ⟨b24, rfl, rfl, hq, hb8⟩ := hcut;clear X8 HP2;replace HOT := zqh (ownsBelow HOT.out hb8);clear hb8;obtain ⟨V7, rfl⟩ : ∃ V, V = wc := ⟨wc, rfl⟩;have X9 := zqh hq;clear hq
       have hvr : IntKind.i64.wrap (-(v : Int)) = -(v : Int) := by have := HV.out; have := HMM.out; rw [IntKind.wrap_i64]; omega
       go_upto_region 27 with (fail)
       go_cut [26, 27] from 193 to 205 (fun p q wx => ∃ b26, p = .pointer (some ⟨b26, 0, none⟩) ∧ q = .int .i64 0 ∧ Kp V1 [eRat b26 (ra, rb), eRat b24 (qa, qb), eRat b22 (pa, pb), eRat b17 (oa, ob), ePrs gl k LP, ePrs gh k HP, eRat b11 T] wx)
       case first =>
        obtain ⟨s1, s2, s3, s4⟩ := (HS1.out _ X9.out.bl).cells;have gb9 := World.block_lt_of_cell? _ _ s1;have gb10 := World.block_lt_of_cell? _ _ s3;have HSQ := zqh (fun W (hW : Below V7.heap.size V7 W) At ct hr => HP3.out W _ _ _ _ _ _ (HS1.out W (zqx X9.out.bl hW X9.out.bl.size)) M1.out M2.out At ct hr);obtain ⟨TS, hTS⟩ : ∃ l, [-(v : Int), -(v : Int)] ++ TM = l := ⟨_, rfl⟩;rw [hTS] at HSQ;have HTS := zqh hTS;clear hTS;have HS : Hid (∀ W, Below V7.heap.size V7 W → W.cell? ⟨b9, 0, none⟩ = some (.int .i64 N.n) ∧ W.cell? ⟨b9, 1, none⟩ = some (.slice A N.l.length c) ∧ W.cell? ⟨b10, 0, none⟩ = some (.slice (some ⟨g1, 0, none⟩) k c1) ∧ W.cell? ⟨b10, 1, none⟩ = some (.slice (some ⟨g2, 0, none⟩) k c2)) := zqh fun W hb => ⟨(hb.cell (p := ⟨b9, 0, none⟩) gb9).trans s1, (hb.cell (p := ⟨b9, 1, none⟩) gb9).trans s2, (hb.cell (p := ⟨b10, 0, none⟩) gb10).trans s3, (hb.cell (p := ⟨b10, 1, none⟩) gb10).trans s4⟩
        refine wp_region_own (n := _) (PX := [zqu (.agg #[.int .i64 N.n, .slice A N.l.length c]),
           zqu (.agg #[.slice (some ⟨g1, 0, none⟩) k c1, .slice (some ⟨g2, 0, none⟩) k c2]),
           zqu (.int .i64 (v : Int)),
           zqu (.int .i64 (-(v : Int))),
           zqu (.int .i64 (v : Int)),
           zqu (.int .i64 (-(v : Int))),
           fun xl xv xw => World.ownsRow xw V7.heap.size 3 1 xv 2 [.int .i64 (-(v : Int)), .int .i64 (-(v : Int))],
           zqu (.slice At TM.length ct2),
           fun xl xv xw => World.ownsRow xw V7.heap.size 3 1 xv (2 + TM.length) ([.int .i64 (-(v : Int)), .int .i64 (-(v : Int))] ++ ((TM).map fun x => .int .i64 x)),
           zqu (.tuple #[.agg #[.string (natB ra), .string (natB rb)], .int .i64 0]),
           zqu (.tuple #[.agg #[.string (natB ra), .string (natB rb)], .int .i64 0]),
           zqu (.agg #[.string (natB ra), .string (natB rb)]),
           zqu (.int .i64 0),
           fun xl xv xw => ∃ X, xv = .pointer (some ⟨X, 0, none⟩) ∧ V7.heap.size ≤ X ∧ World.rowIs xw X 33 2 (arrF #[.string ⟨#[]⟩, .string ⟨#[]⟩]),
           fun xl xv xw => xv = xl.headD undef ∧ ∃ X, xv = .pointer (some ⟨X, 0, none⟩) ∧ V7.heap.size ≤ X ∧ World.rowIs xw X 33 2 (arrF #[.string (natB ra), .string (natB rb)]),
           zqu (.int .i64 0)])
          (AL := [6, 8, 13, 14]) (KL := [(8, 6), (14, 13)]) (DP := [[], [], [], [2], [], [4], [3, 5], [], [6, 7], [0, 1, 8], [9], [10], [10], [], [13, 11], [12]]) (L1 := [0, 1, 2, 3, 4, 5, 6, 7, 8, 9, 10, 11, 12, 13, 14, 15]) (ex := []) (by kernel_rfl) rfl (by kernel_rfl) (by kernel_rfl) ?_ ?_ ?_ (fun bs hbs => ?_)
        ·intro i hi
         match i, hi with
         | 0, hi => exact fun _ _ _ _ h => h
         | 1, hi => exact fun _ _ _ _ h => h
         | 2, hi => exact fun _ _ _ _ h => h
         | 3, hi => exact fun _ _ _ _ h => h
         | 4, hi => exact fun _ _ _ _ h => h
         | 5, hi => exact fun _ _ _ _ h => h
         | 6, hi => exact absurd hi (by decide)
         | 7, hi => exact fun _ _ _ _ h => h
         | 8, hi => exact absurd hi (by decide)
         | 9, hi => exact fun _ _ _ _ h => h
         | 10, hi => exact fun _ _ _ _ h => h
         | 11, hi => exact fun _ _ _ _ h => h
         | 12, hi => exact fun _ _ _ _ h => h
         | 13, hi => exact absurd hi (by decide)
         | 14, hi => exact absurd hi (by decide)
         | 15, hi => exact fun _ _ _ _ h => h
         | i + 16, _ => exact fun _ _ _ _ _ => trivial
        ·intro i hi
         match i, hi with
         | 0, hi => exact absurd hi (by decide)
         | 1, hi => exact absurd hi (by decide)
         | 2, hi => exact absurd hi (by decide)
         | 3, hi => exact absurd hi (by decide)
         | 4, hi => exact absurd hi (by decide)
         | 5, hi => exact absurd hi (by decide)
         | 6, hi => exact fun l v w w2 h _ hb => own_loc h hb
         | 7, hi => exact absurd hi (by decide)
         | 8, hi => exact fun l v w w2 h _ hb => own_loc h hb
         | 9, hi => exact absurd hi (by decide)
         | 10, hi => exact absurd hi (by decide)
         | 11, hi => exact absurd hi (by decide)
         | 12, hi => exact absurd hi (by decide)
         | 13, hi => exact fun l v w w2 h _ hb => by obtain ⟨X, h1, h2, h3⟩ := h; subst h1; exact ⟨X, rfl, h2, row_loc h3 hb⟩
         | 14, hi => exact fun l v w w2 h _ hb => by obtain ⟨h0, X, h1, h2, h3⟩ := h; subst h1; exact ⟨h0, X, rfl, h2, row_loc h3 hb⟩
         | 15, hi => exact absurd hi (by decide)
         | i + 16, _ => exact fun _ _ _ _ _ _ _ => trivial
        ·refine zqg ?_ (zqg ?_ (zqg ?_ (zqg ?_ (zqg ?_ (zqg ?_ (zqg ?_ (zqg ?_ (zqg ?_ (zqg ?_ (zqg ?_ (zqg ?_ (zqg ?_ (zqg ?_ (zqg ?_ (zqg ?_ zqi)))))))))))))))
         ·refine StepO.intro rfl [] (by kernel_rfl) ?_;intro vs W hW0 hd K hK;have hW := zqw hW0;clear hd
          try simp only [putsD, Act.put, zqa, zqb, zqc, zqd, zqe, zqf] at hK ⊢
          obtain ⟨m1, m2, m3, m4⟩ := HS.out W hW
          go_simp
          exact hK.out _ _ rfl (rl_same rfl rfl)
         ·refine StepO.intro rfl [] (by kernel_rfl) ?_;intro vs W hW0 hd K hK;have hW := zqw hW0;clear hd
          try simp only [putsD, Act.put, zqa, zqb, zqc, zqd, zqe, zqf] at hK ⊢
          obtain ⟨m1, m2, m3, m4⟩ := HS.out W hW
          go_simp
          exact hK.out _ _ rfl (rl_same rfl rfl)
         ·refine StepO.intro rfl [] (by kernel_rfl) ?_;intro vs W hW0 hd K hK;have hW := zqw hW0;clear hd
          try simp only [putsD, Act.put, zqa, zqb, zqc, zqd, zqe, zqf] at hK ⊢
          go_simp
          exact hK.out _ _ rfl (rl_same rfl rfl)
         ·refine StepO.intro rfl [(2, some 196)] (by kernel_rfl) ?_;intro vs W hW0 hd K hK;have hW := zqw hW0;have d2 : (vs 2) = .int .i64 (v : Int) := hd 2 (by decide);clear hd
          try simp only [d2, putsD, Act.put, zqa, zqb, zqc, zqd, zqe, zqf] at hK ⊢
          go_simp
          exact hK.out _ _ rfl (rl_same rfl rfl)
         ·refine StepO.intro rfl [] (by kernel_rfl) ?_;intro vs W hW0 hd K hK;have hW := zqw hW0;clear hd
          try simp only [putsD, Act.put, zqa, zqb, zqc, zqd, zqe, zqf] at hK ⊢
          go_simp
          exact hK.out _ _ rfl (rl_same rfl rfl)
         ·refine StepO.intro rfl [(4, some 198)] (by kernel_rfl) ?_;intro vs W hW0 hd K hK;have hW := zqw hW0;have d4 : (vs 4) = .int .i64 (v : Int) := hd 4 (by decide);clear hd
          try simp only [d4, putsD, Act.put, zqa, zqb, zqc, zqd, zqe, zqf] at hK ⊢
          go_simp
          exact hK.out _ _ rfl (rl_same rfl rfl)
         ·refine StepO.intro rfl [(3, some 197), (5, some 199)] (by kernel_rfl) ?_;intro vs W hW0 hd K hK;have hW := zqw hW0;have d3 : (vs 3) = .int .i64 (-(v : Int)) := hd 3 (by decide);have d5 : (vs 5) = .int .i64 (-(v : Int)) := hd 5 (by decide);clear hd
          try simp only [d3, d5, putsD, Act.put, zqa, zqb, zqc, zqd, zqe, zqf] at hK ⊢
          go_simp
          exact hK.out _ _ (World.ownsRow_lit W #[.int .i64 (-(v : Int)), .int .i64 (-(v : Int))] 2 hW.size (by decide) rfl) (rl_new rfl _ rfl)
         ·refine StepO.intro rfl [] (by kernel_rfl) ?_;intro vs W hW0 hd K hK;have hW := zqw hW0;clear hd
          try simp only [putsD, Act.put, zqa, zqb, zqc, zqd, zqe, zqf] at hK ⊢
          go_simp
          exact hK.out _ _ rfl (rl_same rfl rfl)
         ·refine StepO.intro rfl [(6, some 200), (7, some 201)] (by kernel_rfl) ?_;intro vs W hW0 hd K hK;have hW := zqw hW0;have o6 : World.ownsRow W V7.heap.size 3 1 (vs 6) 2 [.int .i64 (-(v : Int)), .int .i64 (-(v : Int))] := hd 6 (by decide);have d7 : (vs 7) = .slice At TM.length ct2 := hd 7 (by decide);clear hd
          try simp only [d7, putsD, Act.put, zqa, zqb, zqc, zqd, zqe, zqf] at hK ⊢
          obtain ⟨v', W', hrun, t1, t2, t3⟩ := app_int W V7.heap.size hW.size (vs 6) _ _ o6 _ (.slice At TM.length ct2) _ _ (ownsBelow HOT.out hW) (ints_one TM) (by have := TML.out; omega);refine wp_append rfl rfl rfl rfl hrun ?_;exact hK.out _ _ t1 (rl_app (by decide) rfl o6 t1 t2 t3)
         ·refine StepO.intro rfl [(0, some 194), (1, some 195), (8, some 202)] (by kernel_rfl) ?_;intro vs W hW0 hd K hK;have hW := zqw hW0;have d0 : (vs 0) = .agg #[.int .i64 N.n, .slice A N.l.length c] := hd 0 (by decide);have d1 : (vs 1) = .agg #[.slice (some ⟨g1, 0, none⟩) k c1, .slice (some ⟨g2, 0, none⟩) k c2] := hd 1 (by decide);have o8 : World.ownsRow W V7.heap.size 3 1 (vs 8) (2 + TM.length) ([.int .i64 (-(v : Int)), .int .i64 (-(v : Int))] ++ ((TM).map fun x => .int .i64 x)) := hd 8 (by decide);clear hd
          try simp only [d0, d1, putsD, Act.put, zqa, zqb, zqc, zqd, zqe, zqf] at hK ⊢
          obtain ⟨At9, ct9, e9, hr9⟩ := own_ints o8 (ts := TS) (by rw [← HTS.out]; simp) (by rw [← HTS.out]; simp; omega);simp only [e9] at hK ⊢
          go_simp
          go_at_call 23
          (with_reducible refine (HSQ.out W hW At9 ct9 hr9).mono ?_)
          rintro e w9 ⟨rfl, hb9⟩;exact hK.out _ _ rfl (rl_below rfl rfl hb9)
         ·refine StepO.intro rfl [(9, some 203)] (by kernel_rfl) ?_;intro vs W hW0 hd K hK;have hW := zqw hW0;have d9 : (vs 9) = .tuple #[.agg #[.string (natB ra), .string (natB rb)], .int .i64 0] := hd 9 (by decide);clear hd
          try simp only [d9, putsD, Act.put, zqa, zqb, zqc, zqd, zqe, zqf] at hK ⊢
          go_simp
          exact hK.out _ _ rfl (rl_same rfl rfl)
         ·refine StepO.intro rfl [(10, some 193)] (by kernel_rfl) ?_;intro vs W hW0 hd K hK;have hW := zqw hW0;have d10 : (vs 10) = .tuple #[.agg #[.string (natB ra), .string (natB rb)], .int .i64 0] := hd 10 (by decide);clear hd
          try simp only [d10, putsD, Act.put, zqa, zqb, zqc, zqd, zqe, zqf] at hK ⊢
          go_simp
          exact hK.out _ _ rfl (rl_same rfl rfl)
         ·refine StepO.intro rfl [(10, some 193)] (by kernel_rfl) ?_;intro vs W hW0 hd K hK;have hW := zqw hW0;have d10 : (vs 10) = .tuple #[.agg #[.string (natB ra), .string (natB rb)], .int .i64 0] := hd 10 (by decide);clear hd
          try simp only [d10, putsD, Act.put, zqa, zqb, zqc, zqd, zqe, zqf] at hK ⊢
          go_simp
          exact hK.out _ _ rfl (rl_same rfl rfl)
         ·refine StepO.intro rfl [] (by kernel_rfl) ?_;intro vs W hW0 hd K hK;have hW := zqw hW0;clear hd
          try simp only [putsD, Act.put, zqa, zqb, zqc, zqd, zqe, zqf] at hK ⊢
          go_simp
          exact hK.out _ _ ⟨W.heap.size, rfl, hW.size, arrNew _ _ _ _ _ rfl rfl⟩ (rl_new rfl _ rfl)
         ·refine StepO.intro rfl [(13, some 26), (11, some 204)] (by kernel_rfl) ?_;intro vs W hW0 hd K hK;have hW := zqw hW0;obtain ⟨X13, d13, b13, r13⟩ : ∃ X, (vs 13) = .pointer (some ⟨X, 0, none⟩) ∧ V7.heap.size ≤ X ∧ World.rowIs W X 33 2 (arrF #[.string ⟨#[]⟩, .string ⟨#[]⟩]) := hd 13 (by decide);have d11 : (vs 11) = .agg #[.string (natB ra), .string (natB rb)] := hd 11 (by decide);clear hd
          try simp only [d13, d11, putsD, Act.put, zqa, zqb, zqc, zqd, zqe, zqf] at hK ⊢
          have l13 := r13.lt;have y13_0 := r13.frozen 0;have k13_0 := r13.cell (i := 0) (by decide);have y13_1 := r13.frozen 1;have k13_1 := r13.cell (i := 1) (by decide)
          go_simp
          exact hK.out (.pointer (some ⟨X13, 0, none⟩)) _ ⟨d13.symm, X13, rfl, b13, (pairRow r13 _ _)⟩ (rl_store (by decide) (d13) rfl ((grown_set _ _ _ _).trans (grown_set _ _ _ _)) (by simp; exact r13.lt))
         ·refine StepO.intro rfl [(12, some 205)] (by kernel_rfl) ?_;intro vs W hW0 hd K hK;have hW := zqw hW0;have d12 : (vs 12) = .int .i64 0 := hd 12 (by decide);clear hd
          try simp only [d12, putsD, Act.put, zqa, zqb, zqc, zqd, zqe, zqf] at hK ⊢
          go_simp
          exact hK.out _ _ rfl (rl_same rfl rfl)
        obtain rfl : bs = [] := List.eq_nil_of_length_eq_zero hbs;refine FinO.intro [(0, some 194), (1, some 195), (2, some 196), (3, some 197), (4, some 198), (5, some 199), (6, some 200), (7, some 201), (8, some 202), (9, some 203), (10, some 193), (11, some 204), (12, some 205), (13, some 26), (14, none), (15, some 27)] #[true, true, true, true, true, true, true, true, true, true, true, true, true, true, true, true] 0 (by kernel_rfl) (by kernel_rfl) (by kernel_rfl) ?_;intro vs Wf hI kf;have hW : Below V7.heap.size V7 Wf := zqx (belowDrewN (zqr _ _) 1) hI.bl (zqn _);have d0 : (vs 0) = .agg #[.int .i64 N.n, .slice A N.l.length c] := hI.px 0 (by decide) (alive_of (by decide));have d1 : (vs 1) = .agg #[.slice (some ⟨g1, 0, none⟩) k c1, .slice (some ⟨g2, 0, none⟩) k c2] := hI.px 1 (by decide) (alive_of (by decide));have d2 : (vs 2) = .int .i64 (v : Int) := hI.px 2 (by decide) (alive_of (by decide));have d3 : (vs 3) = .int .i64 (-(v : Int)) := hI.px 3 (by decide) (alive_of (by decide));have d4 : (vs 4) = .int .i64 (v : Int) := hI.px 4 (by decide) (alive_of (by decide));have d5 : (vs 5) = .int .i64 (-(v : Int)) := hI.px 5 (by decide) (alive_of (by decide));have d7 : (vs 7) = .slice At TM.length ct2 := hI.px 7 (by decide) (alive_of (by decide));have o8 : World.ownsRow Wf V7.heap.size 3 1 (vs 8) (2 + TM.length) ([.int .i64 (-(v : Int)), .int .i64 (-(v : Int))] ++ ((TM).map fun x => .int .i64 x)) := hI.px 8 (by decide) (alive_of (by decide));have d9 : (vs 9) = .tuple #[.agg #[.string (natB ra), .string (natB rb)], .int .i64 0] := hI.px 9 (by decide) (alive_of (by decide));have d10 : (vs 10) = .tuple #[.agg #[.string (natB ra), .string (natB rb)], .int .i64 0] := hI.px 10 (by decide) (alive_of (by decide));have d11 : (vs 11) = .agg #[.string (natB ra), .string (natB rb)] := hI.px 11 (by decide) (alive_of (by decide));have d12 : (vs 12) = .int .i64 0 := hI.px 12 (by decide) (alive_of (by decide));obtain ⟨e14, X14, d14, b14, r14⟩ : (vs 14) = vs 13 ∧ ∃ X, (vs 14) = .pointer (some ⟨X, 0, none⟩) ∧ V7.heap.size ≤ X ∧ World.rowIs Wf X 33 2 (arrF #[.string (natB ra), .string (natB rb)]) := hI.px 14 (by decide) (alive_of (by decide));have d15 : (vs 15) = .int .i64 0 := hI.px 15 (by decide) (alive_of (by decide));have f14 : vs 13 = .pointer (some ⟨X14, 0, none⟩) := e14.symm.trans d14;obtain ⟨u8, hu8⟩ : ∃ u, vs 8 = u := ⟨_, rfl⟩;rw [hu8] at o8;clear hI
        try simp only [d0, d1, d2, d3, d4, d5, d7, d9, d10, d11, d12, d14, d15, f14, hu8, putsD, Act.put, zqa, zqb, zqc, zqd, zqe, zqf]
        clear d0 d1 d2 d3 d4 d5 d7 d9 d10 d11 d12 d14 d15 f14 hu8 e14;clear HS;refine wpAny_end (by kernel_rfl) ?_ _
        all_goals
         try go_wp2
         go_meet
         exact ⟨X14, rfl, rfl, Kp_same0 ((X9.out.below hW).add r14) (ratF_arr ra rb)⟩
       case rest =>
       obtain ⟨b26, rfl, rfl, hq⟩ := hcut;clear X9 HP3 HOT hvr;obtain ⟨V8, rfl⟩ : ∃ V, V = wc := ⟨wc, rfl⟩;have HTB := zqh (fun W (hW : Below V8.heap.size V8 W) => (HS1.out W (zqx hq.bl hW hq.bl.size)).tb);have X10 := zqh hq
       go_upto_region 28 with (fail)
       obtain ⟨s1, s2⟩ := ratCells (hq.row 3 rfl);obtain ⟨s3, s4⟩ := ratCells (hq.row 1 rfl);obtain ⟨s5, s6⟩ := ratCells (hq.row 0 rfl);obtain ⟨s7, s8⟩ := ratCells (hq.row 2 rfl);have gb17 := (hq.row 3 rfl).lt;have gb24 := (hq.row 1 rfl).lt;have gb26 := (hq.row 0 rfl).lt;have gb22 := (hq.row 2 rfl).lt;have hx1 := HX1.out;clear hq;have HS : Hid (∀ W, Below V8.heap.size V8 W → W.cell? ⟨b17, 0, none⟩ = some (.string (natB oa)) ∧ W.cell? ⟨b17, 1, none⟩ = some (.string (natB ob)) ∧ W.cell? ⟨b24, 0, none⟩ = some (.string (natB qa)) ∧ W.cell? ⟨b24, 1, none⟩ = some (.string (natB qb)) ∧ W.cell? ⟨b26, 0, none⟩ = some (.string (natB ra)) ∧ W.cell? ⟨b26, 1, none⟩ = some (.string (natB rb)) ∧ W.cell? ⟨b22, 0, none⟩ = some (.string (natB pa)) ∧ W.cell? ⟨b22, 1, none⟩ = some (.string (natB pb))) := zqh fun W hb => ⟨(hb.cell (p := ⟨b17, 0, none⟩) gb17).trans s1, (hb.cell (p := ⟨b17, 1, none⟩) gb17).trans s2, (hb.cell (p := ⟨b24, 0, none⟩) gb24).trans s3, (hb.cell (p := ⟨b24, 1, none⟩) gb24).trans s4, (hb.cell (p := ⟨b26, 0, none⟩) gb26).trans s5, (hb.cell (p := ⟨b26, 1, none⟩) gb26).trans s6, (hb.cell (p := ⟨b22, 0, none⟩) gb22).trans s7, (hb.cell (p := ⟨b22, 1, none⟩) gb22).trans s8⟩
       refine wp_region_props (n := _) (PX := [zqu (.int .i64 0),
          zqu (.bool true),
          zqu (.bool true),
          zqu (.agg #[.string (natB oa), .string (natB ob)]),
          zqu (.string T1x),
          zqu (.bool true),
          zqu (.bool true),
          zqu (.bool true),
          zqu (.int .i64 0),
          zqu (.bool true),
          zqu (.bool true),
          zqu (.bool true),
          zqu (.agg #[.string (natB qa), .string (natB qb)]),
          zqu (.agg #[.string (natB ra), .string (natB rb)]),
          zqu (.agg #[.string (natB sn), .string (natB sd)]),
          zqu (.agg #[.string (natB pa), .string (natB pb)]),
          zqu (.bool true),
          zqu (.bool true),
          zqu (.bool true),
          zqu (.bool true),
          zqu (.bool true),
          zqu (.bool true)])
         (AL := []) (DP := [[], [0], [1], [2], [2, 3], [2, 4], [2, 5], [6], [7], [7, 8], [7, 9], [10], [11], [11], [11, 12, 13], [11], [11, 14, 15], [11, 16], [17], [18], [18, 19], [20]]) (L1 := [0, 1, 2, 3, 4, 5, 6, 7, 8, 9, 10, 11, 12, 13, 14, 15, 16, 17, 18, 19, 20, 21]) (ex := []) (by kernel_rfl) rfl (by kernel_rfl) ?_ ?_ (fin0 ?_)
       ·refine zqg ?_ (zqg ?_ (zqg ?_ (zqg ?_ (zqg ?_ (zqg ?_ (zqg ?_ (zqg ?_ (zqg ?_ (zqg ?_ (zqg ?_ (zqg ?_ (zqg ?_ (zqg ?_ (zqg ?_ (zqg ?_ (zqg ?_ (zqg ?_ (zqg ?_ (zqg ?_ (zqg ?_ (zqg ?_ zqi)))))))))))))))))))))
        iterate 22 exact fun _ _ _ _ h _ => h
       ·refine zqg ?_ (zqg ?_ (zqg ?_ (zqg ?_ (zqg ?_ (zqg ?_ (zqg ?_ (zqg ?_ (zqg ?_ (zqg ?_ (zqg ?_ (zqg ?_ (zqg ?_ (zqg ?_ (zqg ?_ (zqg ?_ (zqg ?_ (zqg ?_ (zqg ?_ (zqg ?_ (zqg ?_ (zqg ?_ zqi)))))))))))))))))))))
        ·refine zso rfl [] ?_;intro vs W hW hd K hK;clear hd
         try simp only [putsD, Act.put, zqa, zqb, zqc, zqd, zqe, zqf] at hK ⊢
         go_simp
         exact hK.out _ _ rfl (zqr _ _) (zqv rfl)
        ·refine zso rfl [(0, some 206)] ?_;intro vs W hW hd K hK;have d0 : vs 0 = .int .i64 0 := hd 0 (by decide);clear hd
         try simp only [d0, putsD, Act.put, zqa, zqb, zqc, zqd, zqe, zqf] at hK ⊢
         go_simp
         exact hK.out _ _ rfl (zqr _ _) (zqv rfl)
        ·refine zso rfl [(1, some 207)] ?_;intro vs W hW hd K hK;have d1 : vs 1 = .bool true := hd 1 (by decide);clear hd
         try simp only [d1, putsD, Act.put, zqa, zqb, zqc, zqd, zqe, zqf] at hK ⊢
         go_simp
         exact hK.out _ _ rfl (zqr _ _) (zqv rfl)
        ·refine zso rfl [(2, some 208)] ?_;intro vs W hW hd K hK;have d2 : vs 2 = .bool true := hd 2 (by decide);clear hd
         try simp only [d2, putsD, Act.put, zqa, zqb, zqc, zqd, zqe, zqf] at hK ⊢
         obtain ⟨m1, m2, m3, m4, m5, m6, m7, m8⟩ := HS.out W hW
         go_simp
         exact hK.out _ _ rfl (zqr _ _) (zqv rfl)
        ·refine zso rfl [(2, some 208), (3, some 209)] ?_;intro vs W hW hd K hK;have d2 : vs 2 = .bool true := hd 2 (by decide);have d3 : vs 3 = .agg #[.string (natB oa), .string (natB ob)] := hd 3 (by decide);clear hd
         try simp only [d2, d3, putsD, Act.put, zqa, zqb, zqc, zqd, zqe, zqf] at hK ⊢
         go_simp
         go_at_call 28
         (with_reducible first | refine (HTO1.out _).mono ?_)
         rintro e w9 ⟨rfl, hb9⟩;exact hK.out _ _ (rfl) hb9 (fun h => absurd h (by decide))
        ·refine zso rfl [(2, some 208), (4, some 210)] ?_;intro vs W hW hd K hK;have d2 : vs 2 = .bool true := hd 2 (by decide);have d4 : vs 4 = .string T1x := hd 4 (by decide);clear hd
         try simp only [d2, d4, putsD, Act.put, zqa, zqb, zqc, zqd, zqe, zqf] at hK ⊢
         go_simp
         exact hK.out _ _ rfl (zqr _ _) (zqv rfl)
        ·refine zso rfl [(2, some 208), (5, some 211)] ?_;intro vs W hW hd K hK;have d2 : vs 2 = .bool true := hd 2 (by decide);have d5 : vs 5 = .bool true := hd 5 (by decide);clear hd
         try simp only [d2, d5, putsD, Act.put, zqa, zqb, zqc, zqd, zqe, zqf] at hK ⊢
         go_simp
         exact hK.out _ _ rfl (zqr _ _) (zqv rfl)
        ·refine zso rfl [(6, some 212)] ?_;intro vs W hW hd K hK;have d6 : vs 6 = .bool true := hd 6 (by decide);clear hd
         try simp only [d6, putsD, Act.put, zqa, zqb, zqc, zqd, zqe, zqf] at hK ⊢
         go_simp
         exact hK.out _ _ rfl (zqr _ _) (zqv rfl)
        ·refine zso rfl [(7, some 213)] ?_;intro vs W hW hd K hK;have d7 : vs 7 = .bool true := hd 7 (by decide);clear hd
         try simp only [d7, putsD, Act.put, zqa, zqb, zqc, zqd, zqe, zqf] at hK ⊢
         go_simp
         exact hK.out _ _ rfl (zqr _ _) (zqv rfl)
        ·refine zso rfl [(7, some 213), (8, some 214)] ?_;intro vs W hW hd K hK;have d7 : vs 7 = .bool true := hd 7 (by decide);have d8 : vs 8 = .int .i64 0 := hd 8 (by decide);clear hd
         try simp only [d7, d8, putsD, Act.put, zqa, zqb, zqc, zqd, zqe, zqf] at hK ⊢
         go_simp
         exact hK.out _ _ rfl (zqr _ _) (zqv rfl)
        ·refine zso rfl [(7, some 213), (9, some 215)] ?_;intro vs W hW hd K hK;have d7 : vs 7 = .bool true := hd 7 (by decide);have d9 : vs 9 = .bool true := hd 9 (by decide);clear hd
         try simp only [d7, d9, putsD, Act.put, zqa, zqb, zqc, zqd, zqe, zqf] at hK ⊢
         go_simp
         exact hK.out _ _ rfl (zqr _ _) (zqv rfl)
        ·refine zso rfl [(10, some 216)] ?_;intro vs W hW hd K hK;have d10 : vs 10 = .bool true := hd 10 (by decide);clear hd
         try simp only [d10, putsD, Act.put, zqa, zqb, zqc, zqd, zqe, zqf] at hK ⊢
         go_simp
         exact hK.out _ _ rfl (zqr _ _) (zqv rfl)
        ·refine zso rfl [(11, some 217)] ?_;intro vs W hW hd K hK;have d11 : vs 11 = .bool true := hd 11 (by decide);clear hd
         try simp only [d11, putsD, Act.put, zqa, zqb, zqc, zqd, zqe, zqf] at hK ⊢
         obtain ⟨m1, m2, m3, m4, m5, m6, m7, m8⟩ := HS.out W hW
         go_simp
         exact hK.out _ _ rfl (zqr _ _) (zqv rfl)
        ·refine zso rfl [(11, some 217)] ?_;intro vs W hW hd K hK;have d11 : vs 11 = .bool true := hd 11 (by decide);clear hd
         try simp only [d11, putsD, Act.put, zqa, zqb, zqc, zqd, zqe, zqf] at hK ⊢
         obtain ⟨m1, m2, m3, m4, m5, m6, m7, m8⟩ := HS.out W hW
         go_simp
         exact hK.out _ _ rfl (zqr _ _) (zqv rfl)
        ·refine zso rfl [(11, some 217), (12, some 218), (13, some 219)] ?_;intro vs W hW hd K hK;have d11 : vs 11 = .bool true := hd 11 (by decide);have d12 : vs 12 = .agg #[.string (natB qa), .string (natB qb)] := hd 12 (by decide);have d13 : vs 13 = .agg #[.string (natB ra), .string (natB rb)] := hd 13 (by decide);clear hd
         try simp only [d11, d12, d13, putsD, Act.put, zqa, zqb, zqc, zqd, zqe, zqf] at hK ⊢
         go_simp
         go_at_call 27
         (with_reducible first | refine (HA3.out _).mono ?_)
         rintro e w9 ⟨rfl, hb9⟩;exact hK.out _ _ (rfl) hb9 (fun h => absurd h (by decide))
        ·refine zso rfl [(11, some 217)] ?_;intro vs W hW hd K hK;have d11 : vs 11 = .bool true := hd 11 (by decide);clear hd
         try simp only [d11, putsD, Act.put, zqa, zqb, zqc, zqd, zqe, zqf] at hK ⊢
         obtain ⟨m1, m2, m3, m4, m5, m6, m7, m8⟩ := HS.out W hW
         go_simp
         exact hK.out _ _ rfl (zqr _ _) (zqv rfl)
        ·refine zso rfl [(11, some 217), (14, some 220), (15, some 221)] ?_;intro vs W hW hd K hK;have d11 : vs 11 = .bool true := hd 11 (by decide);have d14 : vs 14 = .agg #[.string (natB sn), .string (natB sd)] := hd 14 (by decide);have d15 : vs 15 = .agg #[.string (natB pa), .string (natB pb)] := hd 15 (by decide);clear hd
         try simp only [d11, d14, d15, putsD, Act.put, zqa, zqb, zqc, zqd, zqe, zqf] at hK ⊢
         go_simp
         go_at_call 26
         (with_reducible first | refine (HS3.out _).mono ?_)
         rintro e w9 ⟨rfl, hb9⟩;exact hK.out _ _ (rfl) hb9 (fun h => absurd h (by decide))
        ·refine zso rfl [(11, some 217), (16, some 222)] ?_;intro vs W hW hd K hK;have d11 : vs 11 = .bool true := hd 11 (by decide);have d16 : vs 16 = .bool true := hd 16 (by decide);clear hd
         try simp only [d11, d16, putsD, Act.put, zqa, zqb, zqc, zqd, zqe, zqf] at hK ⊢
         go_simp
         exact hK.out _ _ rfl (zqr _ _) (zqv rfl)
        ·refine zso rfl [(17, some 223)] ?_;intro vs W hW hd K hK;have d17 : vs 17 = .bool true := hd 17 (by decide);clear hd
         try simp only [d17, putsD, Act.put, zqa, zqb, zqc, zqd, zqe, zqf] at hK ⊢
         go_simp
         exact hK.out _ _ rfl (zqr _ _) (zqv rfl)
        ·refine zso rfl [(18, some 224)] ?_;intro vs W hW hd K hK;have d18 : vs 18 = .bool true := hd 18 (by decide);clear hd
         try simp only [d18, putsD, Act.put, zqa, zqb, zqc, zqd, zqe, zqf] at hK ⊢
         go_simp
         go_at_call 15
         (with_reducible first | refine (works_any _ (HTB.out _ hW)).mono ?_)
         rintro e w9 ⟨rfl, hb9⟩;exact hK.out _ _ (rfl) hb9 (fun h => absurd h (by decide))
        ·refine zso rfl [(18, some 224), (19, some 225)] ?_;intro vs W hW hd K hK;have d18 : vs 18 = .bool true := hd 18 (by decide);have d19 : vs 19 = .bool true := hd 19 (by decide);clear hd
         try simp only [d18, d19, putsD, Act.put, zqa, zqb, zqc, zqd, zqe, zqf] at hK ⊢
         go_simp
         exact hK.out _ _ rfl (zqr _ _) (zqv rfl)
        ·refine zso rfl [(20, some 226)] ?_;intro vs W hW hd K hK;have d20 : vs 20 = .bool true := hd 20 (by decide);clear hd
         try simp only [d20, putsD, Act.put, zqa, zqb, zqc, zqd, zqe, zqf] at hK ⊢
         go_simp
         exact hK.out _ _ rfl (zqr _ _) (zqv rfl)
       refine FinOk.intro [(0, some 206), (1, some 207), (2, some 208), (3, some 209), (4, some 210), (5, some 211), (6, some 212), (7, some 213), (8, some 214), (9, some 215), (10, some 216), (11, some 217), (12, some 218), (13, some 219), (14, some 220), (15, some 221), (16, some 222), (17, some 223), (18, some 224), (19, some 225), (20, some 226), (21, some 8)] #[true, true, true, true, true, true, true, true, true, true, true, true, true, true, true, true, true, true, true, true, true, true] 0 (by kernel_rfl) (by kernel_rfl) (by kernel_rfl) ?_;intro vs Wf hW0 hd hbk hdis kf;have hW := zqw hW0;have d0 : vs 0 = .int .i64 0 := hd 0 (by decide);have d1 : vs 1 = .bool true := hd 1 (by decide);have d2 : vs 2 = .bool true := hd 2 (by decide);have d3 : vs 3 = .agg #[.string (natB oa), .string (natB ob)] := hd 3 (by decide);have d4 : vs 4 = .string T1x := hd 4 (by decide);have d5 : vs 5 = .bool true := hd 5 (by decide);have d6 : vs 6 = .bool true := hd 6 (by decide);have d7 : vs 7 = .bool true := hd 7 (by decide);have d8 : vs 8 = .int .i64 0 := hd 8 (by decide);have d9 : vs 9 = .bool true := hd 9 (by decide);have d10 : vs 10 = .bool true := hd 10 (by decide);have d11 : vs 11 = .bool true := hd 11 (by decide);have d12 : vs 12 = .agg #[.string (natB qa), .string (natB qb)] := hd 12 (by decide);have d13 : vs 13 = .agg #[.string (natB ra), .string (natB rb)] := hd 13 (by decide);have d14 : vs 14 = .agg #[.string (natB sn), .string (natB sd)] := hd 14 (by decide);have d15 : vs 15 = .agg #[.string (natB pa), .string (natB pb)] := hd 15 (by decide);have d16 : vs 16 = .bool true := hd 16 (by decide);have d17 : vs 17 = .bool true := hd 17 (by decide);have d18 : vs 18 = .bool true := hd 18 (by decide);have d19 : vs 19 = .bool true := hd 19 (by decide);have d20 : vs 20 = .bool true := hd 20 (by decide);have d21 : vs 21 = .bool true := hd 21 (by decide);clear hd hbk hdis hW0
       try simp only [d0, d1, d2, d3, d4, d5, d6, d7, d8, d9, d10, d11, d12, d13, d14, d15, d16, d17, d18, d19, d20, d21, putsD, Act.put, zqa, zqb, zqc, zqd, zqe, zqf]
       clear d0 d1 d2 d3 d4 d5 d6 d7 d8 d9 d10 d11 d12 d13 d14 d15 d16 d17 d18 d19 d20 d21 vs;clear HS;refine wpAny_end (by kernel_rfl) ?_ _
       all_goals
        try go_wp2
        go_ret
        exact ⟨rfl, zqx BL1.out (zqx X10.out.bl hW X10.out.bl.size) BL1.out.size⟩
end Go.Proofs.YtmhllppjcilllaaGreatDoor
