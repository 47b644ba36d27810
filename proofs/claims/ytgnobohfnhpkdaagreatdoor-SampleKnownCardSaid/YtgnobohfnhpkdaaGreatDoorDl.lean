/- The walks of fractions: Of, Num. The walks of fractions: Add. -/
import Derived.Test.YtgnobohfnhpkdaaGreatDoorDg
import Derived.Test.YtgnobohfnhpkdaaGreatDoorDh
import Derived.Test.YtgnobohfnhpkdaaGreatDoorDj
/-! The walks of fractions: Of, Num. -/
section
set_option linter.unusedSimpArgs false
set_option linter.unusedVariables false
open Go Go.RowKit Cs
namespace Go.Proofs.YtgnobohfnhpkdaaGreatDoor
theorem n8_64 {n : Nat} (h : n < 18446744073709551616) : n8 n ≤ 8 := (n8_le 8 n).2 (by omega)
set_option maxRecDepth 100000 in
set_option maxHeartbeats 4000000 in
/-- Of: n / d in lowest terms. -/
theorem qof_any (w : World) (n d : Nat) (hn : n < 18446744073709551616) (hd : d < 18446744073709551616) (h0 : 0 < d) :
    Calls Tryz.prog 101 #[.int .u64 n, .int .u64 d] w fun e w' => e = .returned (.tuple #[ratV (qn (qq n d)) (qq n d).den, .bool true]) ∧ Below w.heap.size w w' := by
  have h1 := n8_64 hn
  have h2 := n8_64 hd
  have ho1 := fun W => of_any W n hn
  have ho2 := fun W => of_any W d hd
  have hnw := fun W => qnew_any W n d (by omega) (by omega) h0
  generalize qn (qq n d) = N at *
  generalize (qq n d).den = D at *
  have HO1 := Lib.hid ho1
  have HO2 := Lib.hid ho2
  have HNW := Lib.hid hnw
  clear ho1 ho2 hnw h1 h2 hn hd h0
  go_enter Tryz.func101, Tryz.ntmps101
  have hr := ratZero w 74 _ rfl
  have hbel := (Below.refl w.heap.size w).alloc (Nat.le_refl _) (.cells #[.string ⟨#[]⟩, .string ⟨#[]⟩] 74)
  go_wp2_with (first
    | (go_at_call 55
       (with_reducible first | refine (HO1.out _).mono ?_ | refine (HO2.out _).mono ?_)
       rintro e w1 ⟨rfl, hb1⟩
       replace hr := rowBelow hr hb1
       have hz1 := hb1.size
       try simp at hz1
       replace hbel := hbel.trans (hb1.mono (by first | omega | (simp; done) | (simp; omega)))
       clear hb1)
    | (go_at_call 72
       (with_reducible refine (HNW.out _).mono ?_)
       rintro e w1 ⟨rfl, hb1⟩
       replace hr := rowBelow hr hb1
       have hz2 := hb1.size
       replace hbel := hbel.trans (hb1.mono (by omega))
       obtain ⟨d0, d1⟩ := ratCells hr
       have e0 := hr.frozen 0
       have e1 := hr.frozen 1))
  exact ret_rat_slot rfl N D rfl rfl (ratSet hr N D) rfl ⟨rfl, (hbel.setCell (by simp) _).setCell (by simp) _⟩
theorem qof_one (w : World) : Calls Tryz.prog 101 #[.int .u64 1, .int .u64 1] w fun e w' => e = .returned (.tuple #[ratV 1 1, .bool true]) ∧ Below w.heap.size w w' := by
  have h := qof_any w 1 1 (by decide) (by decide) (by decide)
  have e1 : qn (qq 1 1) = 1 := by decide +kernel
  have e2 : (qq 1 1).den = 1 := by decide +kernel
  rw [e1, e2] at h
  exact h
set_option maxRecDepth 100000 in
/-- Num. -/
theorem num_any (w : World) (n d : Nat) : Calls Tryz.prog 51 #[ratV n d] w fun e w' => e = .returned (natV n) ∧ Below w.heap.size w w' := by
  have hrt := (ratNew w n d 74 _ rfl).alloc (.cells #[.string ⟨#[]⟩] 59)
  have hbx := boxNew (w.alloc (.cells #[.string (natB n), .string (natB d)] 74)) (.string (natB n)) 59 (w.heap.size + 1) (by simp)
  have hbel := ((Below.refl w.heap.size w).alloc (Nat.le_refl _) (.cells #[.string (natB n), .string (natB d)] 74)).alloc (by simp) (.cells #[.string (natB n)] 59)
  go_enter Tryz.func51, Tryz.ntmps51
  go_wp2
  exact ret_nat rfl _ rfl hbx rfl ⟨rfl, hbel⟩
end Go.Proofs.YtgnobohfnhpkdaaGreatDoor
end
/-! The walks of fractions: Add. -/
section
set_option linter.unusedSimpArgs false
set_option linter.unusedVariables false
open Go Go.RowKit Cs
namespace Go.Proofs.YtgnobohfnhpkdaaGreatDoor
theorem ret_nat_slot' {fn : Func} {R : Ending → World → Prop} {a : Act} {w : World} {p u : Tmp} (h : fn.results = #[.cell p 59, .tmp u]) {g : Nat} {t : TypeId} (V : Nat) {b : Value}
    (hp : a.tmps.getD p undef = .pointer (some ⟨g, 0, none⟩)) (hb : a.tmps.getD u undef = b) (hrow : w.rowIs g t 1 fun _ => .string (natB V)) (hdf : a.defers = []) (hR : R (.returned (.tuple #[natV V, b])) w) : bodyPost Tryz.prog fn R .ret a w := by
  refine bodyPost_ret ?_ hdf hR
  rw [results_cell_tmp h, hp]
  have hl := run_loadVar_row (P := Tryz.prog) w g t 59 _ (0, 0) _ (rowArr hrow) Tryz.underlying59 rfl (by simpa using size_nat)
  simp [asAddr, Result.andThen, hl, hb]
set_option maxRecDepth 100000 in
theorem qadd1_any (w : World) (a b : Nat) (ha : n8 a ≤ 1000000) (hb : n8 b ≤ 1000000) :
    Calls Tryz.prog 142 #[natV a, natV b] w fun e w' => e = .returned (.tuple #[natV (a + b), .bool true]) ∧ Below w.heap.size w w' := by
  have had := fun W => add_any W a b ha hb
  generalize a + b = S at *
  have HA := Lib.hid had
  clear had ha hb
  have hbx := boxNew ((w.alloc (.cells #[.string (natB a)] 59)).alloc (.cells #[.string (natB b)] 59)) (.string ⟨#[]⟩) 59 (w.heap.size + 1 + 1) (by simp)
  have hbel := (((Below.refl w.heap.size w).alloc (Nat.le_refl _) (.cells #[.string (natB a)] 59)).alloc (by simp) (.cells #[.string (natB b)] 59)).alloc (by simp; omega) (.cells #[.string ⟨#[]⟩] 59)
  go_enter Tryz.func142, Tryz.ntmps142
  go_wp2_with (
    go_at_call 99
    (with_reducible refine (HA.out _).mono ?_)
    rintro e w1 ⟨rfl, hb1⟩
    replace hbx := rowBelow hbx hb1
    have c := boxCell hbx
    have f := hbx.frozen 0
    replace hbel := hbel.trans (hb1.mono (by simp; omega)))
  exact ret_nat_slot' rfl S rfl rfl (boxSet hbx _) rfl ⟨rfl, hbel.setCell (by simp; omega) _⟩
set_option maxRecDepth 100000 in
/-- Add. -/
theorem qadd_any (w : World) (n d n' d' : Nat) (hn : n8 n ≤ 100000) (hd : n8 d ≤ 100000) (hn' : n8 n' ≤ 100000) (hd' : n8 d' ≤ 100000) :
    Calls Tryz.prog 120 #[ratV n d, ratV n' d'] w fun e w' => e = .returned (ratV (qn (qq n d + qq n' d')) (qq n d + qq n' d').den) ∧ Below w.heap.size w w' := by
  have b1 := n8_mul n (qd d')
  have b2 := n8_mul n' (qd d)
  have h1 := n8_qd d hd
  have h2 := n8_qd d' hd'
  have b3 := n8_add (n * qd d') (n' * qd d)
  have hj := fun W => join_add W n d n' d' (n * qd d' + n' * qd d) hn hd hn' hd' (by omega) (fun W => qadd1_any W _ _ (by omega) (by omega))
  simp only [qq_add] at hj
  generalize qn (qq n d + qq n' d') = N at *
  generalize (qq n d + qq n' d').den = D at *
  have HJ := Lib.hid hj
  clear hj b1 b2 h1 h2 b3 hn hd hn' hd'
  have hr := ratZero ((w.alloc (.cells #[.string (natB n), .string (natB d)] 74)).alloc (.cells #[.string (natB n'), .string (natB d')] 74)) 74 (w.heap.size + 1 + 1) (by simp)
  have hbel := (((Below.refl w.heap.size w).alloc (Nat.le_refl _) (.cells #[.string (natB n), .string (natB d)] 74)).alloc (by simp) (.cells #[.string (natB n'), .string (natB d')] 74)).alloc (by simp; omega) (.cells #[.string ⟨#[]⟩, .string ⟨#[]⟩] 74)
  go_enter Tryz.func120, Tryz.ntmps120
  go_wp2_with (
    go_at_call 141
    (with_reducible refine (HJ.out _).mono ?_)
    rintro e w1 ⟨rfl, hb1⟩
    have hz1 := hb1.size
    simp at hz1
    replace hr := (rowBelow hr hb1).alloc (.cells #[.string (natB N), .string (natB D)] 74)
    obtain ⟨c0, c1⟩ := ratCells hr
    have f0 := hr.frozen 0
    have f1 := hr.frozen 1
    replace hbel := (hbel.trans (hb1.mono (by simp; omega))).alloc (by omega) (.cells #[.string (natB N), .string (natB D)] 74))
  exact ret_rat rfl N D rfl (ratSet hr N D) rfl ⟨rfl, (hbel.setCell (by simp; omega) _).setCell (by simp; omega) _⟩
end Go.Proofs.YtgnobohfnhpkdaaGreatDoor
end
