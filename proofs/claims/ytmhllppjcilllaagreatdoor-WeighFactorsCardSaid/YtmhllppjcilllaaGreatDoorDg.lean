import Derived.Test.YtmhllppjcilllaaGreatDoorD4
import Derived.Test.YtmhllppjcilllaaGreatDoorD1
set_option linter.unusedSimpArgs false
set_option linter.unusedVariables false
set_option maxRecDepth 100000
set_option maxHeartbeats 1000000
open Go Go.RowKit Cs
namespace Cs
open Classical in
noncomputable def natOf (s : ByteArray) : Nat := if h : ∃ V, natB V = s then h.choose else 0
theorem natOf_natB (V : Nat) : natOf (natB V) = V := by
 unfold natOf;have h : ∃ U, natB U = natB V := ⟨V, rfl⟩;rw [dif_pos h];exact natB_inj h.choose_spec
noncomputable def numAt (w : World) (b : Nat) : Nat := match w.cell? ⟨b, 0, none⟩ with | some (.string s) => natOf s | _ => 0
theorem numAt_row {w : World} {b V : Nat} {t : TypeId} (h : w.rowIs b t 1 fun _ => .string (natB V)) : numAt w b = V := by
 unfold numAt;rw [boxCell h];exact natOf_natB V
end Cs
namespace Go.Proofs.YtmhllppjcilllaaGreatDoor
theorem gcd_any (w : World) (a b : Nat) (ha : n8 a ≤ 1000000) (hb : n8 b ≤ 1000000) :
  Calls Tryz.prog 76 #[natV a, natV b] w fun e w' => e = .returned (natV (Nat.gcd a b)) ∧ Below w.heap.size w w' := by
 obtain ⟨G, hG⟩ : ∃ G, Nat.gcd a b = G := ⟨_, rfl⟩;rw [hG];have HG := zqh hG;clear hG
 go_enter Tryz.func76, Tryz.ntmps76
 go_wp2_with fail
 go_loopw [] (fun wr => ∃ x y : Nat, Hid (Nat.gcd x y = G) ∧ n8 x ≤ 1000000 ∧ n8 y ≤ 1000000 ∧ wr.rowIs w.heap.size 31 1 (fun _ => .string (natB x)) ∧ wr.rowIs (w.heap.size + 1) 31 1 (fun _ => .string (natB y)) ∧
   wr.rowIs (w.heap.size + 1 + 1) 31 1 (fun _ => .string ⟨#[]⟩) ∧ Below w.heap.size w wr) (fun wr => numAt wr (w.heap.size + 1))
 case atStart => exact ⟨a, b, HG, ha, hb, ((boxNew w _ _ _ rfl).alloc _).alloc _, (boxNew (w.alloc _) _ _ _ (by simp)).alloc _, boxNew ((w.alloc _).alloc _) _ _ _ (by simp), (((zqr _ _).alloc (zqn _) _).alloc (by simp) _).alloc (by simp; omega) _⟩
 case round =>
  clear ha hb HG;obtain ⟨x, y, HG, hx, hy, hr1, hr2, hr3, hbel⟩ := hrel;rw [numAt_row hr2];have hs := natB_size y;have c1 := boxCell hr1;have c2 := boxCell hr2;have hl3 := hr3.lt;rcases Nat.eq_zero_or_pos y with hy0 | hy0
  ·subst hy0;rw [n8_zero] at hs;have hG := HG.out;rw [Nat.gcd_zero_right] at hG;subst hG;have c3 := boxCell hr3;have f3 := hr3.frozen 0
   go_wp2
   exact ret_nat rfl _ rfl (boxSet hr3 _) rfl ⟨rfl, hbel.setCell (by simp; omega) _⟩
  ·have hs0 : 0 < n8 y := by
    rcases Nat.eq_zero_or_pos (n8 y) with h | h
    ·unfold n8 at h; rw [nd_zero_iff 256 (by decide)] at h; omega
    ·exact h
   have hmod : x % y < y := Nat.mod_lt _ hy0;have hm8 : n8 (x % y) ≤ n8 y := n8_mono (Nat.le_of_lt hmod);have hG2 : Hid (Nat.gcd y (x % y) = G) := zqh (by rw [← HG.out, Nat.gcd_comm y, Nat.gcd_comm x, ← Nat.gcd_rec]);obtain ⟨m, hm⟩ : ∃ m, x % y = m := ⟨_, rfl⟩;have hdv := fun W => div_any W x y hx hy hy0;rw [hm] at hmod hm8 hG2;simp only [hm] at hdv;have HD := zqh hdv;clear hdv hm HG
   go_wp2_with (
    go_at_call 77
    (with_reducible refine (HD.out _).mono ?_)
    rintro e w3 ⟨rfl, hb3⟩;replace hr1 := rowBelow hr1 hb3;replace hr2 := rowBelow hr2 hb3;replace hr3 := rowBelow hr3 hb3;have hz3 := hb3.size
    replace hbel := hbel.trans (hb3.mono (by omega)))
   have hm6 := boxNew (w3.alloc (.cells #[.string (natB (x / y))] 31)) (.string (natB m)) 31 (w3.heap.size + 1) (by simp);replace hr1 := (hr1.alloc (.cells #[.string (natB (x / y))] 31)).alloc (.cells #[.string (natB m)] 31);replace hr2 := (hr2.alloc (.cells #[.string (natB (x / y))] 31)).alloc (.cells #[.string (natB m)] 31);replace hr3 := (hr3.alloc (.cells #[.string (natB (x / y))] 31)).alloc (.cells #[.string (natB m)] 31);replace hbel := (hbel.alloc (by omega) (.cells #[.string (natB (x / y))] 31)).alloc (by simp; omega) (.cells #[.string (natB m)] 31);generalize (w3.alloc (.cells #[.string (natB (x / y))] 31)).alloc (.cells #[.string (natB m)] 31) = W at hm6 hr1 hr2 hr3 hbel ⊢;clear c1 c2 hb3;have c1 := boxCell hr1;have c2 := boxCell hr2;have c6 := boxCell hm6;have f1 := hr1.frozen 0;have f2 := hr2.frozen 0
   have hrel : ∀ wq : World, wq = ((W.setCell ⟨w.heap.size, 0, none⟩ (.string (natB y))).setCell ⟨w.heap.size + 1, 0, none⟩ (.string (natB m))).drew → numAt wq (w.heap.size + 1) = m ∧
     wq.rowIs w.heap.size 31 1 (fun _ => .string (natB y)) ∧ wq.rowIs (w.heap.size + 1) 31 1 (fun _ => .string (natB m)) ∧ wq.rowIs (w.heap.size + 1 + 1) 31 1 (fun _ => .string ⟨#[]⟩) ∧ Below w.heap.size w wq := by
    rintro wq rfl;have h2 := boxSet (hr2.setOther (a := ⟨w.heap.size, 0, none⟩) (by simp) (.string (natB y))) (.string (natB m));exact ⟨numAt_row h2.drew, ((boxSet hr1 _).setOther (by simp) _).drew, h2.drew, ((hr3.setOther (by simp; omega) _).setOther (by simp) _).drew, ((hbel.setCell (by simp) _).setCell (by simp) _).drew⟩
   have HREL := zqh hrel;clear hrel
   go_region
   try go_wp2
   go_roundw
   case rel => exact ⟨y, m, hG2, hy, by omega, (HREL.out _ rfl).2⟩
   case measure => rw [(HREL.out _ rfl).1]; exact hmod
abbrev ratV (n d : Nat) : Value := .agg #[.string (natB n), .string (natB d)]
theorem size_rat : (Tryz.prog.info? 33).map (·.size) = some 2 := by kernel_rfl
def ratF (n d : Nat) (i : Nat) : Value := if i = 0 then .string (natB n) else .string (natB d)
theorem ratNew (w : World) (n d : Nat) (t : TypeId) (g : Nat) (hg : w.heap.size = g) : (w.alloc (.cells #[.string (natB n), .string (natB d)] t)).rowIs g t 2 (ratF n d) := by
 subst hg
 exact World.rowIs_alloc w #[.string (natB n), .string (natB d)] t (ratF n d) fun i hi => by
  have : i = 0 ∨ i = 1 := by simp at hi; omega
  rcases this with rfl | rfl <;> rfl
theorem ratZero (w : World) (t : TypeId) (g : Nat) (hg : w.heap.size = g) : (w.alloc (.cells #[.string ⟨#[]⟩, .string ⟨#[]⟩] t)).rowIs g t 2 (ratF 0 0) := by
 have := ratNew w 0 0 t g hg;rwa [natB_zero] at this
theorem ratCells {w : World} {g n d : Nat} {t : TypeId} (h : w.rowIs g t 2 (ratF n d)) : w.cell? ⟨g, 0, none⟩ = some (.string (natB n)) ∧ w.cell? ⟨g, 1, none⟩ = some (.string (natB d)) := ⟨h.cell (by omega), h.cell (i := 1) (by omega)⟩
theorem ratSet {w : World} {g n d : Nat} {t : TypeId} (h : w.rowIs g t 2 (ratF n d)) (n' d' : Nat) : ((w.setCell ⟨g, 0, none⟩ (.string (natB n'))).setCell ⟨g, 1, none⟩ (.string (natB d'))).rowIs g t 2 (ratF n' d') :=
 ((h.set 0 _).set 1 _).congr fun i hi => by
  have : i = 0 ∨ i = 1 := by omega
  rcases this with rfl | rfl <;> rfl
theorem ret_rat {fn : Func} {R : Ending → World → Prop} {a : Act} {w : World} {p : Tmp} (h : fn.results = #[.cell p 33]) {g : Nat} {t : TypeId} (n d : Nat)
  (hp : a.tmps.getD p undef = .pointer (some ⟨g, 0, none⟩)) (hrow : w.rowIs g t 2 (ratF n d)) (hdf : a.defers = []) (hR : R (.returned (ratV n d)) w) : bodyPost Tryz.prog fn R .ret a w :=
 ret_row h g t 2 _ hp hrow _ Tryz.underlying33 rfl size_rat hdf hR
theorem ret_rat_slot {fn : Func} {R : Ending → World → Prop} {a : Act} {w : World} {p u : Tmp} (h : fn.results = #[.cell p 33, .tmp u]) {g : Nat} {t : TypeId} (n d : Nat) {b : Value}
  (hp : a.tmps.getD p undef = .pointer (some ⟨g, 0, none⟩)) (hb : a.tmps.getD u undef = b) (hrow : w.rowIs g t 2 (ratF n d)) (hdf : a.defers = []) (hR : R (.returned (.tuple #[ratV n d, b])) w) : bodyPost Tryz.prog fn R .ret a w := by
 refine bodyPost_ret ?_ hdf hR;rw [results_cell_tmp h, hp];have hl := run_loadVar_row (P := Tryz.prog) w g t 33 _ (0, 0) _ (rowArr hrow) Tryz.underlying33 rfl (by simpa using size_rat);simp [asAddr, Result.andThen, hl, hb]
 rfl
theorem qzero_any (w : World) (a : Nat) (ha : n8 a ≤ 1000000) :
  Calls Tryz.prog 75 #[natV a] w fun e w' => e = .returned (.bool (decide (a = 0))) ∧ Below w.heap.size w w' := by
 have hcp := fun W => cmp_any W a 0 (by omega) (by rw [n8_zero]; omega)
 have hcz : decide (a = 0) = decide (cmpN a 0 = 0) := by
  refine decide_eq_decide.2 ?_;unfold cmpN;split
  ·omega
  ·split <;> omega
 rw [hcz];clear hcz
 generalize cmpN a 0 = M at *
 have hz := natB_zero
 have hz0 : natV 0 = .agg #[.string ⟨#[]⟩] := by show Value.agg #[.string (natB 0)] = _; rw [natB_zero]
 rw [hz0] at hcp;have HCP := zqh hcp;clear hcp
 go_enter Tryz.func75, Tryz.ntmps75
 go_wp2_with (
  go_at_call 72
  (with_reducible refine (HCP.out _).mono ?_)
  rintro e w0 ⟨rfl, hb0⟩)
 go_ret
 exact ⟨rfl, ((zqr _ _).alloc (zqn _) _).trans (hb0.mono (by simp))⟩
theorem of_one (w : World) : Calls Tryz.prog 34 #[.int .u64 1] w fun e w' => e = .returned (natV 1) ∧ Below w.heap.size w w' := of_any w 1 (by decide)
theorem den_any (w : World) (n d : Nat) (hd : n8 d ≤ 1000000) :
  Calls Tryz.prog 73 #[ratV n d] w fun e w' => e = .returned (natV (qd d)) ∧ Below w.heap.size w w' := by
 obtain ⟨Q, hQ⟩ : ∃ Q, qd d = Q := ⟨_, rfl⟩;rw [hQ];have hz := fun W => qzero_any W d hd
 have H1 : Hid (d = 0 → Q = 1) := zqh fun h => by rw [← hQ, h]; rfl
 have H2 : Hid (d ≠ 0 → Q = d) := zqh fun h => by rw [← hQ]; exact qd_of (by omega)
 have HZ := zqh hz;clear hz hQ;have hbx := boxNew (w.alloc (.cells #[.string (natB n), .string (natB d)] 33)) (.string ⟨#[]⟩) 31 (w.heap.size + 1) (by simp);have hrt := (ratNew w n d 33 _ rfl).alloc (.cells #[.string ⟨#[]⟩] 31);have hbel := ((Below.refl w.heap.size w).alloc (zqn _) (.cells #[.string (natB n), .string (natB d)] 33)).alloc (by simp) (.cells #[.string ⟨#[]⟩] 31);by_cases h0 : d = 0
 ·rw [H1.out h0];rw [show decide (d = 0) = true from decide_eq_true h0] at HZ;clear h0 H1 H2
  go_enter Tryz.func73, Tryz.ntmps73
  go_wp2_with (first
   | (go_at_call 75
      (with_reducible refine (HZ.out _).mono ?_)
      rintro e w1 ⟨rfl, hb1⟩;replace hbx := rowBelow hbx hb1;have hz1 := hb1.size;simp at hz1
      replace hbel := hbel.trans (hb1.mono (by simp; omega)))
   | (go_at_call 34
      (with_reducible refine (of_one _).mono ?_)
      rintro e w2 ⟨rfl, hb2⟩;replace hbx := rowBelow hbx hb2;have hc := boxCell hbx;have hf := hbx.frozen 0
      replace hbel := hbel.trans (hb2.mono (by omega))))
  exact ret_nat rfl _ rfl (boxSet hbx _) rfl ⟨rfl, hbel.setCell (by simp) _⟩
 ·rw [H2.out h0];rw [show decide (d = 0) = false from decide_eq_false h0] at HZ;clear h0 H1 H2
  go_enter Tryz.func73, Tryz.ntmps73
  go_wp2_with (
   go_at_call 75
   (with_reducible refine (HZ.out _).mono ?_)
   rintro e w1 ⟨rfl, hb1⟩;replace hbx := rowBelow hbx hb1;replace hrt := rowBelow hrt hb1;have hc := boxCell hbx;have hf := hbx.frozen 0;have hr := ratCells hrt;have hr1 := hr.2;have hz1 := hb1.size;simp at hz1
   replace hbel := hbel.trans (hb1.mono (by simp; omega)))
  exact ret_nat rfl _ rfl (boxSet hbx _) rfl ⟨rfl, hbel.setCell (by simp) _⟩
theorem qnew_any (w : World) (n d : Nat) (hn : n8 n ≤ 1000000) (hd : n8 d ≤ 1000000) (h0 : 0 < d) :
  Calls Tryz.prog 32 #[natV n, natV d] w fun e w' => e = .returned (.tuple #[ratV (qn (qq n d)) (qq n d).den, .bool true]) ∧ Below w.heap.size w w' := by
 have hqn : qn (qq n d) = n / Nat.gcd n d := by rw [qn_qq, qd_of h0]
 have hqd : (qq n d).den = d / Nat.gcd n d := by rw [den_qq, qd_of h0]
 rw [hqn, hqd];have hg0 : 0 < Nat.gcd n d := Nat.gcd_pos_of_pos_right _ h0;have hg8 : n8 (Nat.gcd n d) ≤ 1000000 := Nat.le_trans (n8_mono (Nat.gcd_le_right _ h0)) hd;have hz := fun W => qzero_any W d hd;rw [show decide (d = 0) = false from decide_eq_false (by omega)] at hz;have hgc := fun W => gcd_any W n d hn hd;obtain ⟨g, hg⟩ : ∃ g, Nat.gcd n d = g := ⟨_, rfl⟩;rw [hg] at hg0 hg8 ⊢;simp only [hg] at hgc;have hd1 := fun W => div_any W n g hn hg8 hg0;have hd2 := fun W => div_any W d g hd hg8 hg0
 generalize n / g = q1 at *
 generalize n % g = r1 at *
 generalize d / g = q2 at *
 generalize d % g = r2 at *
 have HZ := zqh hz;have HG := zqh hgc;have HD1 := zqh hd1;have HD2 := zqh hd2;clear hz hgc hd1 hd2 hqn hqd hg
 go_enter Tryz.func32, Tryz.ntmps32
 go_wp2_with (first
 | (go_at_call 75
    (with_reducible refine (HZ.out _).mono ?_)
    rintro e w1 ⟨rfl, hb1⟩;have hr1 := rowBelow ((boxNew w (.string (natB n)) 31 _ rfl).alloc (.cells #[.string (natB d)] 31) |>.alloc (.cells #[.string ⟨#[]⟩, .string ⟨#[]⟩] 33)) hb1;have hr2 := rowBelow ((boxNew (w.alloc (.cells #[.string (natB n)] 31)) (.string (natB d)) 31 (w.heap.size + 1) (by simp)).alloc (.cells #[.string ⟨#[]⟩, .string ⟨#[]⟩] 33)) hb1;have hr3 := rowBelow (ratZero ((w.alloc (.cells #[.string (natB n)] 31)).alloc (.cells #[.string (natB d)] 31)) 33 (w.heap.size + 1 + 1) (by simp)) hb1;have hz1 := hb1.size;simp at hz1;have hbel := ((((Below.refl w.heap.size w).alloc (zqn _) (.cells #[.string (natB n)] 31)).alloc (by simp) (.cells #[.string (natB d)] 31)).alloc (by simp; omega) (.cells #[.string ⟨#[]⟩, .string ⟨#[]⟩] 33)).trans (hb1.mono (by simp; omega));have c1 := boxCell hr1
    have c2 := boxCell hr2)
 | (go_at_call 76
    (with_reducible refine (HG.out _).mono ?_)
    rintro e w2 ⟨rfl, hb2⟩;have hz2 := hb2.size;replace hbel := (hbel.trans (hb2.mono (by omega))).alloc (by omega) (.cells #[.string (natB g)] 31);replace hr1 := rowBelow hr1 hb2;replace hr2 := rowBelow hr2 hb2;have c1 := boxCell hr1;have c2 := boxCell hr2;replace hr1 := hr1.alloc (.cells #[.string (natB g)] 31);replace hr2 := hr2.alloc (.cells #[.string (natB g)] 31);replace hr3 := (rowBelow hr3 hb2).alloc (.cells #[.string (natB g)] 31);have hr6 := boxNew w2 (.string (natB g)) 31 _ rfl
    have hq1 : w.heap.size < w2.heap.size := by omega
    have hq2 : w.heap.size + 1 < w2.heap.size := by omega)
 | (go_at_call 77
    (with_reducible refine (HD1.out _).mono ?_)
    rintro e w3 ⟨rfl, hb3⟩;have hz3 := hb3.size;simp at hz3;replace hbel := (hbel.trans (hb3.mono (by simp; omega))).setCell (p := ⟨w.heap.size, 0, none⟩) (zqn _) (.string (natB q1));replace hr1 := rowBelow hr1 hb3;replace hr2 := rowBelow hr2 hb3;replace hr3 := rowBelow hr3 hb3;replace hr6 := rowBelow hr6 hb3;have c1 := boxCell hr1;have c2 := boxCell hr2;have c6 := boxCell hr6;have f1 := hr1.frozen 0;have hs1 := boxSet hr1 (.string (natB q1));replace hr2 := hr2.setOther (a := ⟨w.heap.size, 0, none⟩) (by simp) (.string (natB q1));replace hr3 := hr3.setOther (a := ⟨w.heap.size, 0, none⟩) (by simp; omega) (.string (natB q1))
    clear hr1 hb3)
 | (go_at_call 77
    (with_reducible refine (HD2.out _).mono ?_)
    rintro e w4 ⟨rfl, hb4⟩;have hz4 := hb4.size;simp at hz4;replace hbel := (((hbel.trans (hb4.mono (by simp; omega))).setCell (p := ⟨w.heap.size + 1, 0, none⟩) (by simp) (.string (natB q2))).setCell (p := ⟨w.heap.size + 1 + 1, 0, none⟩) (by simp; omega) (.string (natB q1))).setCell (p := ⟨w.heap.size + 1 + 1, 1, none⟩) (by simp; omega) (.string (natB q2));replace hr1 := rowBelow hs1 hb4;replace hr2 := rowBelow hr2 hb4;replace hr3 := rowBelow hr3 hb4;have c1 := boxCell hr1;have c2 := boxCell hr2;have f2 := hr2.frozen 0;have d := ratCells hr3;obtain ⟨d0, d1⟩ := d;have e0 := hr3.frozen 0;have e1 := hr3.frozen 1
    replace hr3 := ratSet (hr3.setOther (a := ⟨w.heap.size + 1, 0, none⟩) (by simp) (.string (natB q2))) q1 q2))
 exact ret_rat_slot rfl q1 q2 rfl rfl hr3 rfl ⟨rfl, hbel⟩
theorem qnew_zero (w : World) (n : Nat) :
  Calls Tryz.prog 32 #[natV n, natV 0] w fun e w' => e = .returned (.tuple #[ratV 0 0, .bool false]) ∧ Below w.heap.size w w' := by
 have hz := fun W => qzero_any W 0 (by rw [n8_zero]; omega);rw [show decide ((0 : Nat) = 0) = true from rfl] at hz;have HZ := zqh hz;clear hz
 go_enter Tryz.func32, Tryz.ntmps32
 go_wp2_with (
  go_at_call 75
  (with_reducible refine (HZ.out _).mono ?_)
  rintro e w1 ⟨rfl, hb1⟩;have hr3 := rowBelow (ratZero ((w.alloc (.cells #[.string (natB n)] 31)).alloc (.cells #[.string (natB 0)] 31)) 33 (w.heap.size + 1 + 1) (by simp)) hb1;have hz1 := hb1.size;simp at hz1;have hbel := ((((Below.refl w.heap.size w).alloc (zqn _) (.cells #[.string (natB n)] 31)).alloc (by simp) (.cells #[.string (natB 0)] 31)).alloc (by simp; omega) (.cells #[.string ⟨#[]⟩, .string ⟨#[]⟩] 33)).trans (hb1.mono (by simp; omega));obtain ⟨d0, d1⟩ := ratCells hr3;have e0 := hr3.frozen 0
  have e1 := hr3.frozen 1)
 have hs := ratSet hr3 0 0;rw [natB_zero] at hs;exact ret_rat_slot rfl 0 0 rfl rfl hs rfl ⟨rfl, (hbel.setCell (by simp; omega) _).setCell (by simp; omega) _⟩
end Go.Proofs.YtmhllppjcilllaaGreatDoor
