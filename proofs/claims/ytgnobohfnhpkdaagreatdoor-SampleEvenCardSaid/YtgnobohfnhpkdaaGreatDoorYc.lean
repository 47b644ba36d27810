import Derived.Test.YtgnobohfnhpkdaaGreatDoorYa
import Derived.Test.YtgnobohfnhpkdaaGreatDoorDl
import Derived.Test.YtgnobohfnhpkdaaGreatDoorNs
import Derived.WalkMore
import Derived.Deep.CutBlock
import Derived.Deep.CutRange
import Derived.Test.YtgnobohfnhpkdaaGreatDoorDt
set_option linter.unusedSimpArgs false
set_option linter.unusedVariables false
set_option maxRecDepth 100000
set_option maxHeartbeats 4000000
section
open Go Go.RowKit Cs
namespace Go.Proofs.YtgnobohfnhpkdaaGreatDoor
theorem bitsOf_any (w : World) (c : Nat) (hc : 0 < c) (h8 : n8 c ≤ 100000) :
  Calls Tryz.prog 31 #[natV c] w fun e w' => e = .returned (.int .i64 (nd 2 (c - 1))) ∧ Below w.heap.size w w' := by
 have hsu := fun W => sub_ge W c 1 (by omega) (by have := n8_64 (n := 1) (by decide); omega) hc;have h9 : n8 (c - 1) ≤ 1000000 := Nat.le_trans (n8_mono (Nat.sub_le _ _)) (by omega);have hln := fun W => natLen_any W (c - 1) (by omega)
 generalize c - 1 = d at *
 have HSU := zqh hsu;have HLN := zqh hln;clear hsu hln h8 hc h9;have q0 := (Bag.zero w).new #[.string (natB c)] 59 w.heap.size 1 rfl rfl
 go_enter Tryz.func31, Tryz.ntmps31
 go_wp2_with fail
 obtain ⟨W, hW⟩ : ∃ W, w.alloc (.cells #[.string (natB c)] 59) = W := ⟨_, rfl⟩;rw [hW] at q0 ⊢;clear hW
 go_cut [3, 4] from 6 to 10 (fun p x wx => ∃ gx, p = .pointer (some ⟨gx, 0, none⟩) ∧ x = .bool true ∧ Bag w w w.heap.size ((gx, 59, 1, #[.string (natB d)]) :: [(w.heap.size, 59, 1, #[.string (natB c)])]) wx)
 case first =>
  have q6 := q0.drew;have hz := (q0.new #[.string ⟨#[]⟩] 59 _ 1 rfl rfl).row0.drew;have hX0 := q0.fresh;have m1 := q6.is (w.heap.size) 1 59 #[.string (natB c)] (by simp) 0 (by decide) (.string (natB c)) rfl
  go_region_held3 (fun w' => w'.cell? ⟨w.heap.size, 0, none⟩ = some (.string (natB c)))
   (first | exact m1 | exact (World.cell?_setCell_far _ _ _ _ N1.out).trans m1 | exact (q0.alloc _).drew.is (w.heap.size) 1 59 #[.string (natB c)] (by simp) 0 (by decide) (.string (natB c)) rfl | exact (q6.alloc _).is (w.heap.size) 1 59 #[.string (natB c)] (by simp) 0 (by decide) (.string (natB c)) rfl | go_keep)
   (first
     | (go_simp
        go_at_call 55
        (with_reducible first | refine (of_one _).mono ?_)
        rintro e w9 ⟨rfl, hb9⟩
        first
         | (replace q6 := q6.below hb9
            try replace hz6 := rowBelow hz6 hb9)
         | (have hz6 := rowBelow hz hb9
            have hX6 := hX0;have N1 := zqh (Ne.symm (hX6.2 (w.heap.size, 59, 1, #[.string (natB c)]) (by simp)))
            replace q6 := (q0.alloc _).drew.below hb9)
         | (have hX6 := q6.fresh
            have N1 := zqh (Ne.symm (hX6.2 (w.heap.size, 59, 1, #[.string (natB c)]) (by simp)));have hz6 := rowBelow (arrNew _ #[.string ⟨#[]⟩] 59 _ 1 rfl rfl) hb9
            replace q6 := (q6.alloc _).below hb9)
        have m1 := q6.is (w.heap.size) 1 59 #[.string (natB c)] (by simp) 0 (by decide) (.string (natB c)) rfl
        try have y0 := hz6.frozen 0
        try have z0 := hz6.cell (i := 0) (by omega))
     | (go_simp
        go_at_call 54
        (with_reducible first | refine (HSU.out _).mono ?_)
        rintro e w9 ⟨rfl, hb9⟩
        first
         | (replace q6 := q6.below hb9
            try replace hz6 := rowBelow hz6 hb9)
         | (have hz6 := rowBelow hz hb9
            have hX6 := hX0;have N1 := zqh (Ne.symm (hX6.2 (w.heap.size, 59, 1, #[.string (natB c)]) (by simp)))
            replace q6 := (q0.alloc _).drew.below hb9)
         | (have hX6 := q6.fresh
            have N1 := zqh (Ne.symm (hX6.2 (w.heap.size, 59, 1, #[.string (natB c)]) (by simp)));have hz6 := rowBelow (arrNew _ #[.string ⟨#[]⟩] 59 _ 1 rfl rfl) hb9
            replace q6 := (q6.alloc _).below hb9)
        have m1 := q6.is (w.heap.size) 1 59 #[.string (natB c)] (by simp) 0 (by decide) (.string (natB c)) rfl
        try have y0 := hz6.frozen 0
        try have z0 := hz6.cell (i := 0) (by omega)))
  all_goals
   try go_wp2
   go_meet
   case rel =>
    first
     | exact ⟨_, rfl, rfl, q6.new _ _ _ _ rfl rfl⟩
     | exact ⟨_, rfl, rfl, (q6.other hX6.1 hX6.2 _ _).cons (oneRow hz6 _)⟩
 case rest =>
  obtain ⟨gx, rfl, rfl, q3⟩ := hcut;have x1 := q3.is0 0 (by decide) (.string (natB d)) rfl
  go_wp2_with (
   go_at_call 56
   (with_reducible refine (HLN.out _).mono ?_)
   rintro e w5 ⟨rfl, hb5⟩
   have hb := zqx q3.bl hb5 q3.bl.size)
  go_ret
  exact ⟨rfl, hb⟩
end Go.Proofs.YtgnobohfnhpkdaaGreatDoor
end
section
open Go Go.RowKit Cs
namespace Cs
def byF (bs : List Nat) (i : Nat) : Value := .int .u8 (bs.getD i 0 : Nat)
def intAt (w : World) (b : Nat) : Nat := match w.cell? ⟨b, 0, none⟩ with | some (.int _ n) => n.toNat | _ => 0
theorem intAt_row {w : World} {b n : Nat} {t : TypeId} (h : w.rowIs b t 1 fun _ => .int .i64 (n : Int)) : intAt w b = n := by
 unfold intAt;rw [boxCell h];simp
theorem byte_and (y j : Nat) (hy : y < 256) : bits BinOp.and IntKind.u8 ((y : Int) / 2 ^ j) 1 = ((y / 2 ^ j % 2 : Nat) : Int) := by
 have h2 : ((y : Int) / 2 ^ j) = ((y / 2 ^ j : Nat) : Int) := by simp
 rw [h2];have hb : y / 2 ^ j < 256 := Nat.lt_of_le_of_lt (Nat.div_le_self _ _) hy;generalize y / 2 ^ j = x at hb;clear h2
 revert x
 decide +kernel
end Cs
namespace Go.Proofs.YtgnobohfnhpkdaaGreatDoor
theorem next_bit (w : World) (p u l cap used H : Nat) (bs : List Nat) (A : Option Addr) (hl : bs.length = l) (hl2 : l ≤ 1000000) (hp : w.cell? ⟨p, 0, none⟩ = some (.slice A l cap)) (hu : w.rowIs u 3 1 fun _ => .int .i64 used)
  (hbs : Rd w H A l (byF bs)) (hb8 : ∀ i, bs.getD i 0 < 256) (hlt : used < 8 * l) :
  Calls Tryz.prog 102 #[.pointer (some ⟨p, 0, none⟩), .pointer (some ⟨u, 0, none⟩)] w fun e w' => e = .returned (natV (bitAt bs used)) ∧ w'.rowIs u 3 1 (fun _ => .int .i64 ((used + 1 : Nat) : Int)) ∧ w.grownBy w' (some u) := by
 obtain ⟨b, o, rfl, _, hc⟩ := hbs (by omega);have c1 := hc (used / 8) (by omega);have hb := World.block_lt_of_cell? w _ c1;simp only at hb;unfold byF at c1;have hv := hb8 (used / 8);have hbit : bitAt bs used = bs.getD (used / 8) 0 / 2 ^ (7 - used % 8) % 2 := rfl;have hbl := bitAt_lt bs used
 generalize bitAt bs used = B at *
 generalize bs.getD (used / 8) 0 = y at *
 have hof := fun W => of_any W B (by omega);have HOF := zqh hof;have hul := hu.lt;have hpl := World.block_lt_of_cell? w _ hp;have u1 := boxCell hu;have u2 := hu.frozen 0;clear hc hbs hof
 go_enter Tryz.func102, Tryz.ntmps102
 go_wp2_with fail
 go_quiet (fail)
 have eB : bits BinOp.and IntKind.u8 ((y : Int) / 2 ^ (7 - used % 8)) 1 = (B : Int) := by rw [byte_and y _ hv, hbit]
 rw [eB];clear hbit eB c1 hv hb8;have hw1 := boxSet (rowDrewN (hu.alloc (.cells #[.string ⟨#[]⟩] 59)) nq) (.int .i64 ((used : Int) + 1));have g1 : w.grownBy (((w.alloc (.cells #[.string ⟨#[]⟩] 59)).drewN nq).setCell ⟨u, 0, none⟩ (.int .i64 ((used : Int) + 1))) (some u) := only_setCell (only_drewN (only_alloc (World.grownBy.refl w _) _) nq) (.inl rfl) _;have z1 := (rowDrewN (arrNew w #[.string ⟨#[]⟩] 59 _ 1 rfl rfl) nq).setOther (a := ⟨u, 0, none⟩) (by show w.heap.size ≠ u; omega) (.int .i64 ((used : Int) + 1))
 go_wp2_with (
  go_at_call 55
  (with_reducible refine (HOF.out _).mono ?_)
  rintro e w9 ⟨rfl, hb9⟩;have h2 := rowBelow hw1 hb9;have g2 := only_below g1 hb9;have z2 := rowBelow z1 hb9;have y2 := z2.cell (i := 0) (by omega)
  have y3 := z2.frozen 0)
 have h3 := h2.setOther (a := ⟨w.heap.size, 0, none⟩) (by show u ≠ w.heap.size; omega) (.string (natB B));have g3 := only_setCell g2 (p := ⟨w.heap.size, 0, none⟩) (.inr (zqn _)) (.string (natB B));refine ret_nat (t := 59) (g := w.heap.size) rfl (natB B) rfl (boxSet (z2.congr fun i hi => (by obtain rfl : i = 0 := (by omega); rfl)) _) rfl ⟨rfl, h3.congr fun i hi => ?_, g3⟩;simp
end Go.Proofs.YtgnobohfnhpkdaaGreatDoor
end
section
open Go Go.RowKit Cs
namespace Cs
structure Dr (w wr : World) (tN tS tI : TypeId) (A : Option Addr) (c l cap X u : Nat) : Prop where
 r2 : wr.rowIs w.heap.size tN 1 fun _ => .string (natB c)
 r3 : wr.rowIs (w.heap.size + 1) tS 1 fun _ => .slice A l cap
 r4 : wr.rowIs (w.heap.size + 1 + 1) tN 1 fun _ => .string (natB X)
 r5 : wr.rowIs (w.heap.size + 1 + 1 + 1) tI 1 fun _ => .int .i64 (u : Int)
 bl : Below w.heap.size w wr
section
variable {w wr w' : World} {tN tS tI : TypeId} {A : Option Addr} {c l cap X u : Nat}
theorem Dr.below (h : Dr w wr tN tS tI A c l cap X u) (hb : Below wr.heap.size wr w') : Dr w w' tN tS tI A c l cap X u :=
 ⟨rowBelow h.r2 hb, rowBelow h.r3 hb, rowBelow h.r4 hb, rowBelow h.r5 hb, h.bl.trans (hb.mono h.bl.size)⟩
theorem Dr.drew (h : Dr w wr tN tS tI A c l cap X u) : Dr w wr.drew tN tS tI A c l cap X u := ⟨h.r2, h.r3, h.r4, h.r5, h.bl.drew⟩
theorem Dr.setX (h : Dr w wr tN tS tI A c l cap X u) (Y : Nat) : Dr w (wr.setCell ⟨w.heap.size + 1 + 1, 0, none⟩ (.string (natB Y))) tN tS tI A c l cap Y u :=
 ⟨h.r2.setOther (by simp <;> omega) _, h.r3.setOther (by simp) _, boxSet h.r4 _, h.r5.setOther (by simp) _, h.bl.setCell (by simp <;> omega) _⟩
theorem Dr.setU (h : Dr w wr tN tS tI A c l cap X u) (v : Nat) : Dr w (wr.setCell ⟨w.heap.size + 1 + 1 + 1, 0, none⟩ (.int .i64 (v : Int))) tN tS tI A c l cap X v :=
 ⟨h.r2.setOther (by simp <;> omega) _, h.r3.setOther (by simp <;> omega) _, h.r4.setOther (by simp) _, boxSet h.r5 _, h.bl.setCell (by simp <;> omega) _⟩
theorem Dr.grown (h : Dr w wr tN tS tI A c l cap X u) {v : Nat} (h5 : w'.rowIs (w.heap.size + 1 + 1 + 1) tI 1 fun _ => .int .i64 (v : Int)) (hg : wr.grownBy w' (some (w.heap.size + 1 + 1 + 1))) : Dr w w' tN tS tI A c l cap X v :=
 ⟨rowGrown h.r2 hg (by simp <;> omega), rowGrown h.r3 hg (by simp <;> omega), rowGrown h.r4 hg (by simp), h5, belowGrown h.bl hg h.bl.size (by omega)⟩
end
theorem n8_bits {V k : Nat} (h : V < 2 ^ k) (hk : k ≤ 1000000) : n8 V ≤ 125000 := n8_pow V k 125000 h (by omega)
end Cs
namespace Go.Proofs.YtgnobohfnhpkdaaGreatDoor
def drV : Option (Nat × Nat) → Value
 | none => .tuple #[natV 0, .int .i64 0, .bool false]
 | some (x, u) => .tuple #[natV x, .int .i64 (u : Int), .bool true]
theorem ret_draw {fn : Func} {R : Ending → World → Prop} {a : Act} {w : World} {p q u : Tmp} (h : fn.results = #[.cell p 59, .cell q 3, .tmp u]) {g g' : Nat} {t t' : TypeId} (V U : Nat) {b : Value}
  (hp : a.tmps.getD p undef = .pointer (some ⟨g, 0, none⟩)) (hq : a.tmps.getD q undef = .pointer (some ⟨g', 0, none⟩)) (hb : a.tmps.getD u undef = b) (hrow : w.rowIs g t 1 fun _ => .string (natB V)) (hrow' : w.rowIs g' t' 1 fun _ => .int .i64 (U : Int))
  (hdf : a.defers = []) (hR : R (.returned (.tuple #[natV V, .int .i64 (U : Int), b])) w) : bodyPost Tryz.prog fn R .ret a w := by
 refine bodyPost_ret (v := .tuple #[natV V, .int .i64 (U : Int), b]) ?_ hdf hR;rw [results_cells_tmp h, hp];have hl := run_loadVar_row (P := Tryz.prog) w g t 59 _ (0, 0) _ (rowArr hrow) Tryz.underlying59 rfl (by simpa using size_nat);have hc := boxCell hrow'
 have hl' : (loadVar 3 ⟨g', 0, none⟩).run Tryz.prog w = .ok (.int .i64 (U : Int)) w := by
  simp [loadVar, isAgg, hc, Sem.run_bind, Result.andThen]
 simp [asAddr, Result.andThen, hl, hl', hq, hb]
theorem draw_any (w : World) (c l cap : Nat) (bs : List Nat) (A : Option Addr) (hc : 0 < c) (h8 : n8 c ≤ 100000) (hl : bs.length = l) (hl2 : l ≤ 1000000)
  (hbs : Rd w w.heap.size A l (byF bs)) (hb8 : ∀ i, bs.getD i 0 < 256) :
  Calls Tryz.prog 52 #[natV c, .slice A l cap] w fun e w' => e = .returned (drV (drawN c bs)) ∧ Below w.heap.size w w' := by
 have hbo := fun W => bitsOf_any W c hc h8;have hk := nd2_le (V := c - 1) (Nat.le_trans (n8_mono (Nat.sub_le _ _)) (by omega));have hk0 : nd 2 (c - 1) = 0 → 0 < c := fun _ => hc
 have hDn : drawN c bs = drawF bs c (nd 2 (c - 1)) (8 * l + 1) 0 := by rw [← hl]; rfl
 rw [hDn];clear hDn
 generalize nd 2 (c - 1) = k at *
 have HBO := zqh hbo;have HBS := zqh hbs;have HB8 := zqh hb8;obtain ⟨R, hR⟩ : ∃ R, drawF bs c k (8 * l + 1) 0 = R := ⟨_, rfl⟩;rw [hR];clear hbo hbs hb8
 have d0 : Dr w ((((w.alloc (.cells #[.string (natB c)] 59)).alloc (.cells #[.slice A l cap] 25)).alloc (.cells #[.string ⟨#[]⟩] 59)).alloc (.cells #[.int .i64 0] 3)) 59 25 3 A c l cap 0 0 := by
  refine ⟨(((boxNew w _ _ _ rfl).alloc _).alloc _).alloc _, ((boxNew (w.alloc _) _ _ _ (by simp)).alloc _).alloc _, ?_, boxNew (((w.alloc _).alloc _).alloc _) _ _ _ (by simp), ((((zqr _ _).alloc (zqn _) _).alloc (by simp) _).alloc (by simp; omega) _).alloc (by simp; omega) _⟩;rw [natB_zero];exact (boxNew ((w.alloc _).alloc _) _ _ _ (by simp)).alloc _
 go_enter Tryz.func52, Tryz.ntmps52
 go_wp2_with (
  go_at_call 31
  (with_reducible refine (HBO.out _).mono ?_)
  rintro e w1 ⟨rfl, hb1⟩;replace d0 := d0.below hb1
  clear hb1)
 clear HBO
 go_loopw [] (fun wr => ∃ X u f : Nat, Hid (drawF bs c k f u = R ∧ 8 * l < u + f) ∧ u ≤ 8 * l ∧ Dr w wr 59 25 3 A c l cap X u) (fun wr => 8 * l - intAt wr (w.heap.size + 1 + 1 + 1))
 case atStart => exact ⟨0, 0, 8 * l + 1, zqh ⟨hR, by omega⟩, by omega, d0⟩
 case round =>
  clear hR d0;obtain ⟨X, u, f, HR, hu, d1⟩ := hrel;have hRt := drawN_turn bs c k hk0 f u (by rw [hl]; exact HR.out.2);rw [HR.out.1, hl] at hRt;have HT := zqh hRt;have HF := zqh HR.out.2;clear hRt HR;rw [intAt_row d1.r5];have c2 := boxCell d1.r2;have c3 := boxCell d1.r3;have c4 := boxCell d1.r4;have c5 := boxCell d1.r5;have f4 := d1.r4.frozen 0;have f5 := d1.r5.frozen 0;rcases Nat.lt_or_ge (8 * l) (u + k) with hle | hle
  ·have hRt' := HT.out;have b1 : decide ((u : Int) + (k : Int) ≤ 8 * (l : Int)) = false := decide_eq_false (by omega)
   go_wp2
   have d2 := (d1.setX 0).setU 0;rw [natB_zero] at d2;rw [if_neg (by omega)] at hRt';exact ret_draw rfl 0 0 rfl rfl rfl (by rw [natB_zero]; exact boxSet d1.r4 _ |>.setOther (by simp) _) d2.r5 rfl ⟨by rw [hRt']; rfl, d2.bl⟩
  ·have b1 : decide ((u : Int) + (k : Int) ≤ 8 * (l : Int)) = true := decide_eq_true (by omega)
   go_wp2
   have d2 := d1.setX 0;rw [natB_zero] at d2;generalize wr.setCell ⟨w.heap.size + 1 + 1, 0, none⟩ (.string ⟨#[]⟩) = W2 at d2 ⊢;have d3 : ∃ X', natB X' = ⟨#[]⟩ ∧ X' = 0 := ⟨0, natB_zero, rfl⟩;clear c2 c3 c4 c5 f4 f5 b1 d3
   go_loopw [21] (fun t wq => ∃ j : Nat, j ≤ k ∧ t = .int .i64 j ∧ Dr w wq 59 25 3 A c l cap (bitsV bs u j) (u + j)) (fun t _ => k - (intOf t).toNat)
   case atStart => exact ⟨0, by omega, rfl, d2⟩
   case round =>
    clear d1 d2;obtain ⟨j, hj, rfl, d4⟩ := hrel;have c3 := boxCell d4.r3;have c4 := boxCell d4.r4;have c5 := boxCell d4.r5;have f4 := d4.r4.frozen 0;rcases Nat.lt_or_ge j k with hjk | hjk
    ·have b1 : decide ((j : Int) < (k : Int)) = true := decide_eq_true (by omega);have n1 := n8_bits (bitsV_lt bs u j) (by omega);have n2 := n8_bits (V := bitsV bs u j + bitsV bs u j) (k := j + 1) (by have := bitsV_lt bs u j; rw [Nat.pow_succ]; omega) (by omega);have n3 : n8 (bitAt bs (u + j)) ≤ 1 := (n8_le _ _).2 (by have := bitAt_lt bs (u + j); omega);have ha1 := fun W => add_any W (bitsV bs u j) (bitsV bs u j) (by omega) (by omega);have ha2 := fun W => add_any W (bitsV bs u j + bitsV bs u j) (bitAt bs (u + j)) (by omega) (by omega);have HA1 := zqh ha1;have HA2 := zqh ha2;clear ha1 ha2 n1 n2 n3
     go_wp2_with (first
      | (go_at_call 99
         (with_reducible first | refine (HA1.out _).mono ?_ | refine (HA2.out _).mono ?_)
         rintro e w5 ⟨rfl, hb5⟩;replace d4 := d4.below hb5;have c4 := boxCell d4.r4;have f4 := d4.r4.frozen 0
         clear hb5)
      | (go_at_call 102
         (with_reducible refine (next_bit _ _ _ l cap (u + j) w.heap.size bs A hl hl2 (boxCell d4.r3) d4.r5 (HBS.out.below d4.bl) HB8.out (by omega)).mono ?_)
         rintro e w5 ⟨rfl, h5, hg5⟩;replace d4 := d4.grown h5 hg5
         clear h5 hg5))
     have d5 := d4.setX (bitsV bs u (j + 1))
     go_roundw
     case rel => exact ⟨j + 1, by omega, by simp, d5⟩
     case measure => simp [intOf]; omega
    ·obtain rfl : j = k := by omega
     have b1 : decide ((j : Int) < (j : Int)) = false := decide_eq_false (by omega);have n1 := n8_bits (bitsV_lt bs u j) (by omega);have hcm := fun W => cmp_any W (bitsV bs u j) c (by omega) (by omega);have c2 := boxCell d4.r2;have f5 := d4.r5.frozen 0;have hRt' := HT.out;rw [if_pos hle] at hRt'
     have hcv : cmpN (bitsV bs u j) c < 0 ↔ bitsV bs u j < c := by unfold cmpN; split <;> (try split) <;> omega
     generalize cmpN (bitsV bs u j) c = M at *
     have HC := zqh hcm;clear hcm n1;rcases Nat.lt_or_ge (bitsV bs u j) c with hx | hx
     ·rw [if_pos hx] at hRt';have b2 : decide (M < 0) = true := decide_eq_true (hcv.2 hx);clear hcv hx HT
      go_wp2_with (
       go_at_call 30
       (with_reducible refine (HC.out _).mono ?_)
       rintro e w5 ⟨rfl, hb5⟩;replace d4 := d4.below hb5;have c4 := boxCell d4.r4;have c5 := boxCell d4.r5;have f4 := d4.r4.frozen 0;have f5 := d4.r5.frozen 0
       clear hb5)
      go_region
      all_goals
       try go_wp2
       have d5 := ((d4.setX (bitsV bs u j)).setU (u + j)).drew;exact ret_draw rfl _ (u + j) rfl rfl rfl d5.r4 d5.r5 rfl ⟨by rw [hRt']; rfl, d5.bl⟩
     ·rw [if_neg (by omega)] at hRt';have b2 : decide (M < 0) = false := decide_eq_false (by omega);clear hcv
      go_wp2_with (
       go_at_call 30
       (with_reducible refine (HC.out _).mono ?_)
       rintro e w5 ⟨rfl, hb5⟩;replace d4 := d4.below hb5
       clear hb5)
      have hj0 : 0 < j := by
       rcases Nat.eq_zero_or_pos j with h | h
       ·subst h;exact absurd hc (by have : bitsV bs u 0 = 0 := rfl; omega)
       ·exact h
      rw [intAt_row d4.r5];have hf := HF.out;exact ⟨⟨_, u + j, f, zqh ⟨hRt'.symm, by omega⟩, by omega, d4⟩, by omega⟩
end Go.Proofs.YtgnobohfnhpkdaaGreatDoor
end
