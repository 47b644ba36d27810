import Derived.Test.YtmhllppjcilllaaGreatDoorDl
import Derived.Laws.EntriesVeiled
set_option linter.unusedSimpArgs false
set_option linter.unusedVariables false
set_option maxRecDepth 100000
set_option maxHeartbeats 4000000
open Go Go.RowKit Cs
namespace Cs
theorem heap_setSame {w w' : World} {a : Addr} (v : Value) (h : w'.heap[a.block]? = w.heap[a.block]?) : (w'.setCell a v).heap[a.block]? = (w.setCell a v).heap[a.block]? := by
 unfold World.setCell;simp only [Array.getElem?_modify, h]
theorem bsetBoth {D : Nat} {w w' : World} (h : Below D w w') (a : Addr) (v : Value) : Below D (w.setCell a v) (w'.setCell a v) :=
 ⟨h.os, h.tape, h.output, by rw [size_setCell, size_setCell]; exact h.size, fun k hk => by
   by_cases e : k = a.block
   ·subst e;exact heap_setSame v (h.block _ hk)
   ·rw [Below.heap_setCell _ _ _ _ e, Below.heap_setCell _ _ _ _ e]
    exact h.block k hk⟩
theorem Bag.both {w wr : World} {D : Nat} {R : List (Nat × TypeId × Nat × Array Value)} (h : Bag w w D R wr) (b : Nat) (v : Value) (hR : ∀ r ∈ R, r.1 ≠ b) : Bag (w.setCell ⟨b, 0, none⟩ v) (w.setCell ⟨b, 0, none⟩ v) D R (wr.setCell ⟨b, 0, none⟩ v) :=
 ⟨fun r hr => (h.rows r hr).setOther (hR r hr) _, bsetBoth h.base _ _, by rw [size_setCell]; exact bsetBoth h.bl _ _, by rw [size_setCell]; exact h.le, by rw [size_setCell]; exact h.wD⟩
theorem Bag.below' {w w0 wr w' : World} {D : Nat} {R : List (Nat × TypeId × Nat × Array Value)} {a : Addr} {v : Value} (h : Bag w w0 D R (wr.setCell a v)) (hb : Below wr.heap.size (wr.setCell a v) w') : Bag w w0 D R w' :=
 h.below (by rw [size_setCell]; exact hb)
theorem rowSet {w w' : World} {a : Addr} {v : Value} {g n : Nat} {t : TypeId} {f : Nat → Value} (h : (w.setCell a v).rowIs g t n f) (hb : Below w.heap.size (w.setCell a v) w') : w'.rowIs g t n f :=
 rowBelow h (by rw [size_setCell]; exact hb)
end Cs
namespace Go.Proofs.YtmhllppjcilllaaGreatDoor
theorem qcmp1_any (w : World) (x y b : Nat) (hx : n8 x ≤ 1000000) (hy : n8 y ≤ 1000000) (f : Nat → Value) (hr : w.rowIs b 3 1 f) :
  Calls Tryz.prog 118 #[natV x, natV y, .pointer (some ⟨b, 0, none⟩)] w fun e w' => e = .returned (.tuple #[natV x, .bool false]) ∧ Below w.heap.size (w.setCell ⟨b, 0, none⟩ (.int .i64 (cmpN x y))) w' := by
 have hc := fun W => cmp_any W x y (by omega) (by omega)
 generalize cmpN x y = k at *
 have HC := zqh hc;have hbw := hr.lt;have q0 := (((Bag.zero w).new #[.string (natB x)] 31 w.heap.size 1 rfl rfl).new #[.string (natB y)] 31 (w.heap.size + 1) 1 (by simp) rfl).new #[.string ⟨#[]⟩] 31 (w.heap.size + 1 + 1) 1 (by simp) rfl;have m1 := q0.is w.heap.size 1 31 #[.string (natB x)] (by simp) 0 (by decide) (.string (natB x)) rfl;have m2 := q0.is (w.heap.size + 1) 1 31 #[.string (natB y)] (by simp) 0 (by decide) (.string (natB y)) rfl
 have HNB : Hid (∀ r ∈ [(w.heap.size + 1 + 1, 31, 1, #[Value.string ⟨#[]⟩]), (w.heap.size + 1, 31, 1, #[.string (natB y)]), (w.heap.size, 31, 1, #[.string (natB x)])], r.1 ≠ b) := zqh fun r hr => by
  simp only [List.mem_cons, List.not_mem_nil, or_false] at hr;rcases hr with rfl | rfl | rfl
  ·show w.heap.size + 1 + 1 ≠ b; omega
  ·show w.heap.size + 1 ≠ b; omega
  ·show w.heap.size ≠ b; omega
 clear hc
 go_enter Tryz.func118, Tryz.ntmps118
 go_wp2_with fail
 refine (HC.out _).mono ?_;rintro e w9 ⟨rfl, hb9⟩;have q1 := q0.below hb9;have y1 := (rowBelow hr q1.bl).frozen 0;have z1 := (rowBelow hr q1.bl).cell (i := 0) (by omega);have q2 := q1.both b (.int .i64 k) HNB.out;have m3 := q2.is w.heap.size 1 31 #[.string (natB x)] (by simp) 0 (by decide) (.string (natB x)) rfl;have m4 : _ = some (Value.string ⟨#[]⟩) := q2.is0 0 (by decide) (.string ⟨#[]⟩) rfl;have m5 := q2.row0.frozen 0;have hfin := oneRow q2.row0 (.string (natB x));have hbf := q2.base.setCell (p := ⟨w.heap.size + 1 + 1, 0, none⟩) (by simp; omega) (.string (natB x));clear q0 q1 m1 m2 hb9 q2
 go_wp2_with fail
 exact ret_nat_slot' rfl x rfl rfl (hfin.congr fun i hi => by
  obtain rfl : i = 0 := by omega
  rfl) rfl ⟨rfl, hbf⟩
theorem join_cmp (w : World) (n d n' d' z b : Nat) (v : Value) (hn : n8 n ≤ 100000) (hd : n8 d ≤ 100000) (hn' : n8 n' ≤ 100000) (hd' : n8 d' ≤ 100000) (hz : n8 z ≤ 1000000) (hbw : b < w.heap.size)
  (hf : ∀ W, Below w.heap.size w W → Calls Tryz.prog 118 #[natV (n * qd d'), natV (n' * qd d), .pointer (some ⟨b, 0, none⟩)] W fun e w' => e = .returned (.tuple #[natV z, .bool false]) ∧ Below W.heap.size (W.setCell ⟨b, 0, none⟩ v) w') :
  Calls Tryz.prog 69 #[ratV n d, ratV n' d', .func (.func 118) #[] #[.pointer (some ⟨b, 0, none⟩)]] w fun e w' => e = .returned (.tuple #[ratV 0 0, .bool false]) ∧ Below w.heap.size (w.setCell ⟨b, 0, none⟩ v) w' := by
 have h1 := n8_qd d hd;have h2 := n8_qd d' hd';have hm1 := fun W => mul_any W n (qd d') (by omega) (by omega);have hda := fun W => den_any W n d (by omega);have hdb := fun W => den_any W n' d' (by omega);have hm2 := fun W => mul_any W n' (qd d) (by omega) (by omega);have hm3 := fun W => mul_any W (qd d) (qd d') (by omega) (by omega);have b2 := n8_mul (qd d) (qd d');have hnw := fun W => qnew_any W z (qd d * qd d') hz (by omega) (Nat.mul_pos (qd_pos _) (qd_pos _))
 generalize qn (qq z (qd d * qd d')) = N at *
 generalize (qq z (qd d * qd d')).den = D at *
 generalize n * qd d' = M1 at *
 generalize n' * qd d = M2 at *
 generalize qd d * qd d' = M3 at *
 generalize qd d = Q at *
 generalize qd d' = Q' at *
 have HM1 := zqh hm1;have HM2 := zqh hm2;have HM3 := zqh hm3;have HDA := zqh hda;have HDB := zqh hdb;have HNW := zqh hnw;have HF := zqh hf;clear hm1 hm2 hm3 hda hdb hnw hf b2 h1 h2 hn hd hn' hd' hz;have q0 := ((((Bag.zero w).new #[.string (natB n), .string (natB d)] 33 w.heap.size 2 rfl rfl).new #[.string (natB n'), .string (natB d')] 33 (w.heap.size + 1) 2 (by simp) rfl).new #[.string ⟨#[]⟩, .string ⟨#[]⟩] 33 (w.heap.size + 1 + 1) 2 (by simp) rfl)
 go_enter Tryz.func69, Tryz.ntmps69
 go_wp2_with fail
 obtain ⟨W, hW⟩ : ∃ W, ((w.alloc (.cells #[.string (natB n), .string (natB d)] 33)).alloc (.cells #[.string (natB n'), .string (natB d')] 33)).alloc (.cells #[.string ⟨#[]⟩, .string ⟨#[]⟩] 33) = W := ⟨_, rfl⟩;rw [hW] at q0 ⊢;clear hW
 have HNB : ∀ r ∈ ([(w.heap.size + 1 + 1, 33, 2, #[Value.string ⟨#[]⟩, .string ⟨#[]⟩]), (w.heap.size + 1, 33, 2, #[.string (natB n'), .string (natB d')]), (w.heap.size, 33, 2, #[.string (natB n), .string (natB d)])] : List (Nat × TypeId × Nat × Array Value)), r.1 ≠ b := fun r hr => by
  simp only [List.mem_cons, List.not_mem_nil, or_false] at hr;rcases hr with rfl | rfl | rfl
  ·show w.heap.size + 1 + 1 ≠ b; omega
  ·show w.heap.size + 1 ≠ b; omega
  ·show w.heap.size ≠ b; omega
 have HNW2 : W.heap.size ≠ b := by have := q0.bl.size; omega
 have HNX : ∀ W', Below w.heap.size w W' → W'.heap.size ≠ b := fun W' h => by have := h.size; omega
 go_cut [8, 9] from 11 to 24 (fun p x wx => ∃ gx, p = .pointer (some ⟨gx, 0, none⟩) ∧ x = .bool false ∧ Bag (w.setCell ⟨b, 0, none⟩ v) (w.setCell ⟨b, 0, none⟩ v) w.heap.size ((gx, 31, 1, #[.string (natB z)]) :: [(w.heap.size + 1 + 1, 33, 2, #[.string ⟨#[]⟩, .string ⟨#[]⟩]), (w.heap.size + 1, 33, 2, #[.string (natB n'), .string (natB d')]), (w.heap.size, 33, 2, #[.string (natB n), .string (natB d)])]) wx)
 case first =>
  have q6 := q0.drew;have hz := (q0.new #[.string ⟨#[]⟩] 31 _ 1 rfl rfl).row0.drew;have hX0 := q0.fresh;have m1 := q6.is (w.heap.size) 2 33 #[.string (natB n), .string (natB d)] (by simp) 0 (by decide) (.string (natB n)) rfl;have m2 := q6.is (w.heap.size) 2 33 #[.string (natB n), .string (natB d)] (by simp) 1 (by decide) (.string (natB d)) rfl;have m3 := q6.is (w.heap.size + 1) 2 33 #[.string (natB n'), .string (natB d')] (by simp) 0 (by decide) (.string (natB n')) rfl;have m4 := q6.is (w.heap.size + 1) 2 33 #[.string (natB n'), .string (natB d')] (by simp) 1 (by decide) (.string (natB d')) rfl
  go_region_held3 (fun w' => w'.cell? ⟨w.heap.size, 0, none⟩ = some (.string (natB n)) ∧ w'.cell? ⟨w.heap.size, 1, none⟩ = some (.string (natB d)) ∧ w'.cell? ⟨w.heap.size + 1, 0, none⟩ = some (.string (natB n')) ∧ w'.cell? ⟨w.heap.size + 1, 1, none⟩ = some (.string (natB d')))
   (first | exact ⟨m1, m2, m3, m4⟩ | exact ⟨(World.cell?_setCell_far _ _ _ _ N1.out).trans m1, (World.cell?_setCell_far _ _ _ _ N2.out).trans m2, (World.cell?_setCell_far _ _ _ _ N3.out).trans m3, (World.cell?_setCell_far _ _ _ _ N4.out).trans m4⟩ | exact ⟨(q0.alloc _).drew.is (w.heap.size) 2 33 #[.string (natB n), .string (natB d)] (by simp) 0 (by decide) (.string (natB n)) rfl, (q0.alloc _).drew.is (w.heap.size) 2 33 #[.string (natB n), .string (natB d)] (by simp) 1 (by decide) (.string (natB d)) rfl, (q0.alloc _).drew.is (w.heap.size + 1) 2 33 #[.string (natB n'), .string (natB d')] (by simp) 0 (by decide) (.string (natB n')) rfl, (q0.alloc _).drew.is (w.heap.size + 1) 2 33 #[.string (natB n'), .string (natB d')] (by simp) 1 (by decide) (.string (natB d')) rfl⟩ | exact ⟨(q6.alloc _).is (w.heap.size) 2 33 #[.string (natB n), .string (natB d)] (by simp) 0 (by decide) (.string (natB n)) rfl, (q6.alloc _).is (w.heap.size) 2 33 #[.string (natB n), .string (natB d)] (by simp) 1 (by decide) (.string (natB d)) rfl, (q6.alloc _).is (w.heap.size + 1) 2 33 #[.string (natB n'), .string (natB d')] (by simp) 0 (by decide) (.string (natB n')) rfl, (q6.alloc _).is (w.heap.size + 1) 2 33 #[.string (natB n'), .string (natB d')] (by simp) 1 (by decide) (.string (natB d')) rfl⟩ | go_keep)
   (first
     | (go_simp
        go_at_call 33
        (with_reducible first | refine (HM1.out _).mono ?_ | refine (HM2.out _).mono ?_)
        rintro e w9 ⟨rfl, hb9⟩
        first
         | (replace q6 := q6.below hb9
            try replace hz6 := rowBelow hz6 hb9)
         | (have hz6 := rowBelow hz hb9
            have HZ6 := zqh HNW2;have hX6 := hX0;have N1 := zqh (Ne.symm (hX6.2 (w.heap.size, 33, 2, #[.string (natB n), .string (natB d)]) (by simp)));have N2 := zqh (Ne.symm (hX6.2 (w.heap.size, 33, 2, #[.string (natB n), .string (natB d)]) (by simp)));have N3 := zqh (Ne.symm (hX6.2 (w.heap.size + 1, 33, 2, #[.string (natB n'), .string (natB d')]) (by simp)));have N4 := zqh (Ne.symm (hX6.2 (w.heap.size + 1, 33, 2, #[.string (natB n'), .string (natB d')]) (by simp)))
            replace q6 := (q0.alloc _).drew.below hb9)
         | (have hX6 := q6.fresh
            have N1 := zqh (Ne.symm (hX6.2 (w.heap.size, 33, 2, #[.string (natB n), .string (natB d)]) (by simp)));have N2 := zqh (Ne.symm (hX6.2 (w.heap.size, 33, 2, #[.string (natB n), .string (natB d)]) (by simp)));have N3 := zqh (Ne.symm (hX6.2 (w.heap.size + 1, 33, 2, #[.string (natB n'), .string (natB d')]) (by simp)));have N4 := zqh (Ne.symm (hX6.2 (w.heap.size + 1, 33, 2, #[.string (natB n'), .string (natB d')]) (by simp)));have hz6 := rowBelow (arrNew _ #[.string ⟨#[]⟩] 31 _ 1 rfl rfl) hb9;have HZ6 := zqh (HNX _ q6.bl)
            replace q6 := (q6.alloc _).below hb9)
        have m1 := q6.is (w.heap.size) 2 33 #[.string (natB n), .string (natB d)] (by simp) 0 (by decide) (.string (natB n)) rfl;have m2 := q6.is (w.heap.size) 2 33 #[.string (natB n), .string (natB d)] (by simp) 1 (by decide) (.string (natB d)) rfl;have m3 := q6.is (w.heap.size + 1) 2 33 #[.string (natB n'), .string (natB d')] (by simp) 0 (by decide) (.string (natB n')) rfl;have m4 := q6.is (w.heap.size + 1) 2 33 #[.string (natB n'), .string (natB d')] (by simp) 1 (by decide) (.string (natB d')) rfl
        try have y0 := hz6.frozen 0
        try have z0 := hz6.cell (i := 0) (by omega))
     | (go_simp
        go_at_call 73
        (with_reducible first | refine (HDA.out _).mono ?_ | refine (HDB.out _).mono ?_)
        rintro e w9 ⟨rfl, hb9⟩
        first
         | (replace q6 := q6.below hb9
            try replace hz6 := rowBelow hz6 hb9)
         | (have hz6 := rowBelow hz hb9
            have HZ6 := zqh HNW2;have hX6 := hX0;have N1 := zqh (Ne.symm (hX6.2 (w.heap.size, 33, 2, #[.string (natB n), .string (natB d)]) (by simp)));have N2 := zqh (Ne.symm (hX6.2 (w.heap.size, 33, 2, #[.string (natB n), .string (natB d)]) (by simp)));have N3 := zqh (Ne.symm (hX6.2 (w.heap.size + 1, 33, 2, #[.string (natB n'), .string (natB d')]) (by simp)));have N4 := zqh (Ne.symm (hX6.2 (w.heap.size + 1, 33, 2, #[.string (natB n'), .string (natB d')]) (by simp)))
            replace q6 := (q0.alloc _).drew.below hb9)
         | (have hX6 := q6.fresh
            have N1 := zqh (Ne.symm (hX6.2 (w.heap.size, 33, 2, #[.string (natB n), .string (natB d)]) (by simp)));have N2 := zqh (Ne.symm (hX6.2 (w.heap.size, 33, 2, #[.string (natB n), .string (natB d)]) (by simp)));have N3 := zqh (Ne.symm (hX6.2 (w.heap.size + 1, 33, 2, #[.string (natB n'), .string (natB d')]) (by simp)));have N4 := zqh (Ne.symm (hX6.2 (w.heap.size + 1, 33, 2, #[.string (natB n'), .string (natB d')]) (by simp)));have hz6 := rowBelow (arrNew _ #[.string ⟨#[]⟩] 31 _ 1 rfl rfl) hb9;have HZ6 := zqh (HNX _ q6.bl)
            replace q6 := (q6.alloc _).below hb9)
        have m1 := q6.is (w.heap.size) 2 33 #[.string (natB n), .string (natB d)] (by simp) 0 (by decide) (.string (natB n)) rfl;have m2 := q6.is (w.heap.size) 2 33 #[.string (natB n), .string (natB d)] (by simp) 1 (by decide) (.string (natB d)) rfl;have m3 := q6.is (w.heap.size + 1) 2 33 #[.string (natB n'), .string (natB d')] (by simp) 0 (by decide) (.string (natB n')) rfl;have m4 := q6.is (w.heap.size + 1) 2 33 #[.string (natB n'), .string (natB d')] (by simp) 1 (by decide) (.string (natB d')) rfl
        try have y0 := hz6.frozen 0
        try have z0 := hz6.cell (i := 0) (by omega))
     | (go_simp
        go_at_call 118
        (with_reducible first | refine (HF.out _ q6.bl).mono ?_ | refine (HF.out _ (q0.alloc _).drew.bl).mono ?_ | refine (HF.out _ (q6.alloc _).bl).mono ?_)
        rintro e w9 ⟨rfl, hb9⟩
        first
         | (replace q6 := (q6.both b v HNB).below' hb9
            try replace hz6 := rowSet (hz6.setOther (a := ⟨b, 0, none⟩) HZ6.out v) hb9)
         | (have hz6 := rowSet (hz.setOther (a := ⟨b, 0, none⟩) HNW2 v) hb9
            have hX6 := hX0;have N1 := zqh (Ne.symm (hX6.2 (w.heap.size, 33, 2, #[.string (natB n), .string (natB d)]) (by simp)));have N2 := zqh (Ne.symm (hX6.2 (w.heap.size, 33, 2, #[.string (natB n), .string (natB d)]) (by simp)));have N3 := zqh (Ne.symm (hX6.2 (w.heap.size + 1, 33, 2, #[.string (natB n'), .string (natB d')]) (by simp)));have N4 := zqh (Ne.symm (hX6.2 (w.heap.size + 1, 33, 2, #[.string (natB n'), .string (natB d')]) (by simp)))
            replace q6 := ((q0.alloc _).drew.both b v HNB).below' hb9)
         | (have hX6 := q6.fresh
            have N1 := zqh (Ne.symm (hX6.2 (w.heap.size, 33, 2, #[.string (natB n), .string (natB d)]) (by simp)));have N2 := zqh (Ne.symm (hX6.2 (w.heap.size, 33, 2, #[.string (natB n), .string (natB d)]) (by simp)));have N3 := zqh (Ne.symm (hX6.2 (w.heap.size + 1, 33, 2, #[.string (natB n'), .string (natB d')]) (by simp)));have N4 := zqh (Ne.symm (hX6.2 (w.heap.size + 1, 33, 2, #[.string (natB n'), .string (natB d')]) (by simp)));have hz6 := rowSet (((q6.new #[.string ⟨#[]⟩] 31 _ 1 rfl rfl).row0).setOther (a := ⟨b, 0, none⟩) (HNX _ q6.bl) v) hb9;dsimp only at hz6
            replace q6 := ((q6.alloc _).both b v HNB).below' hb9)
        have m1 := q6.is (w.heap.size) 2 33 #[.string (natB n), .string (natB d)] (by simp) 0 (by decide) (.string (natB n)) rfl;have m2 := q6.is (w.heap.size) 2 33 #[.string (natB n), .string (natB d)] (by simp) 1 (by decide) (.string (natB d)) rfl;have m3 := q6.is (w.heap.size + 1) 2 33 #[.string (natB n'), .string (natB d')] (by simp) 0 (by decide) (.string (natB n')) rfl;have m4 := q6.is (w.heap.size + 1) 2 33 #[.string (natB n'), .string (natB d')] (by simp) 1 (by decide) (.string (natB d')) rfl
        try have y0 := hz6.frozen 0
        try have z0 := hz6.cell (i := 0) (by omega)))
  all_goals
   try go_wp2
   go_meet
   case rel =>
    first
     | exact ⟨_, rfl, rfl, q6.new _ _ _ _ rfl rfl⟩
     | exact ⟨_, rfl, rfl, (q6.other hX6.1 hX6.2 _ _).cons (oneRow hz6 _)⟩
 case rest =>
  obtain ⟨gx, rfl, rfl, q3⟩ := hcut;clear q0 HM1 HM2 HM3 HDA HDB HNW HF;have hr : wc.rowIs (w.heap.size + 1 + 1) 33 2 (arrF #[.string ⟨#[]⟩, .string ⟨#[]⟩]) := q3.rows (w.heap.size + 1 + 1, 33, 2, #[.string ⟨#[]⟩, .string ⟨#[]⟩]) (by simp);have y1 := hr.frozen 0;have y2 := hr.frozen 1;have z1 : _ = some (Value.string ⟨#[]⟩) := hr.cell (i := 0) (by omega);have z2 : _ = some (Value.string ⟨#[]⟩) := hr.cell (i := 1) (by omega);have hs := (pairRow hr (.string (natB 0)) (.string (natB 0))).congr (ratF_arr 0 0);have hb := (q3.base.setCell (p := ⟨w.heap.size + 1 + 1, 0, none⟩) (by simp; omega) (.string (natB 0))).setCell (p := ⟨w.heap.size + 1 + 1, 1, none⟩) (by simp; omega) (.string (natB 0));rw [natB_zero] at hs hb
  go_wp2_with fail
  exact ret_rat_slot rfl 0 0 rfl rfl hs rfl ⟨rfl, hb⟩
theorem qcmp_any (w : World) (n d n' d' : Nat) (hn : n8 n ≤ 100000) (hd : n8 d ≤ 100000) (hn' : n8 n' ≤ 100000) (hd' : n8 d' ≤ 100000) :
  Calls Tryz.prog 68 #[ratV n d, ratV n' d'] w fun e w' => e = .returned (.int .i64 (cmpN (n * qd d') (n' * qd d))) ∧ Below w.heap.size w w' := by
 have h1 := n8_qd d hd;have h2 := n8_qd d' hd';have b1 := n8_mul n (qd d');have b2 := n8_mul n' (qd d);have q0 := (((Bag.zero w).new #[.string (natB n), .string (natB d)] 33 w.heap.size 2 rfl rfl).new #[.string (natB n'), .string (natB d')] 33 (w.heap.size + 1) 2 (by simp) rfl).new #[.int .i64 0] 3 (w.heap.size + 1 + 1) 1 (by simp) rfl
 have hj := join_cmp (((w.alloc (.cells #[.string (natB n), .string (natB d)] 33)).alloc (.cells #[.string (natB n'), .string (natB d')] 33)).alloc (.cells #[.int .i64 0] 3)) n d n' d' (n * qd d') (w.heap.size + 1 + 1) (.int .i64 (cmpN (n * qd d') (n' * qd d))) hn hd hn' hd' (by omega) (by simp)
  (fun W hb => qcmp1_any W _ _ _ (by omega) (by omega) _ (rowBelow q0.row0 hb))
 generalize cmpN (n * qd d') (n' * qd d) = k at *
 have HJ := zqh hj;have m1 := q0.is w.heap.size 2 33 #[.string (natB n), .string (natB d)] (by simp) 0 (by decide) (.string (natB n)) rfl;clear hj h1 h2 b1 b2 hn hd hn' hd'
 go_enter Tryz.func68, Tryz.ntmps68
 go_wp2_with fail
 refine HJ.out.mono ?_;rintro e w9 ⟨rfl, hb9⟩;have r9 := rowSet (q0.row0.set 0 (.int .i64 k)) hb9;have z9 : w9.cell? ⟨w.heap.size + 1 + 1, 0, none⟩ = some (.int .i64 k) := r9.cell (i := 0) (Nat.zero_lt_one);have hbf : Below w.heap.size w w9 := (q0.bl.setCell (p := ⟨w.heap.size + 1 + 1, 0, none⟩) (by simp; omega) (.int .i64 k)).trans (hb9.mono (by simp; omega));clear q0 HJ m1 r9 hb9
 go_wp2_with fail
 go_ret
 exact ⟨rfl, hbf⟩
end Go.Proofs.YtmhllppjcilllaaGreatDoor
