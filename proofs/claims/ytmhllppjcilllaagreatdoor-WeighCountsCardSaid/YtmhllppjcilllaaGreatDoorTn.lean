import Derived.Test.YtmhllppjcilllaaGreatDoorLy
import Derived.Test.YtmhllppjcilllaaGreatDoorTm
import Derived.Test.YtmhllppjcilllaaGreatDoorV1
import Derived.Test.YtmhllppjcilllaaGreatDoorBq
set_option linter.unusedSimpArgs false
set_option linter.unusedVariables false
set_option maxRecDepth 100000
set_option maxHeartbeats 1000000
open Go Go.RowKit Cs Go.Sort Go.Lib
namespace Go.Proofs.YtmhllppjcilllaaGreatDoor
theorem litVar_abs {x : Int} (h : x.natAbs ≤ 128) : litVar x = (x.natAbs : Int) := by
 unfold litVar;split
 ·omega
 ·split <;> omega
theorem litCmp_any (W : World) (x y : Int) (hx : x.natAbs ≤ 128) (hy : y.natAbs ≤ 128) :
  Calls Tryz.prog 153 #[.int .i64 x, .int .i64 y] W fun e w' => e = .returned (.int .i64 (cmpL x y)) ∧ w' = W := by
 have h1 : ∀ V, Calls Tryz.prog 117 #[.int .i64 x] V fun e w' => e = .returned (.int .i64 (x.natAbs : Int)) ∧ V = w' := fun V => by
  have := litVar_any V x (by omega) (by omega);rw [litVar_abs hx] at this;exact this
 have h2 : ∀ V, Calls Tryz.prog 117 #[.int .i64 y] V fun e w' => e = .returned (.int .i64 (y.natAbs : Int)) ∧ V = w' := fun V => by
  have := litVar_any V y (by omega) (by omega);rw [litVar_abs hy] at this;exact this
 have H1 := zqh h1;have H2 := zqh h2
 have wr1 : IntKind.i64.wrap ((x.natAbs : Int) - (y.natAbs : Int)) = (x.natAbs : Int) - (y.natAbs : Int) := by rw [IntKind.wrap_i64]; omega
 have wr2 : IntKind.i64.wrap (x - y) = x - y := by rw [IntKind.wrap_i64]; omega
 unfold cmpL;by_cases h : x.natAbs = y.natAbs
 ·rw [if_neg (by omega)];obtain ⟨a, ha⟩ : ∃ a : Int, (x.natAbs : Int) = a := ⟨_, rfl⟩
  have hb : (y.natAbs : Int) = a := by omega
  simp only [ha] at H1;simp only [hb] at H2
  have hne : (a != a) = false := by simp
  clear h1 h2 h hx hy ha hb wr1
  go_enter Tryz.func153, Tryz.ntmps153
  go_wp2_with (go_at_call 117; (with_reducible first | refine (H1.out _).mono ?_ | refine (H2.out _).mono ?_); rintro e w1 ⟨rfl, rfl⟩)
  all_goals
   go_ret
   exact ⟨rfl, rfl⟩
 ·rw [if_pos h];obtain ⟨a, ha⟩ : ∃ a : Int, (x.natAbs : Int) = a := ⟨_, rfl⟩;obtain ⟨b, hb⟩ : ∃ b : Int, (y.natAbs : Int) = b := ⟨_, rfl⟩
  have hab : a ≠ b := by omega
  simp only [ha] at H1;simp only [hb] at H2;rw [ha, hb] at wr1;rw [ha, hb];have hne : (a != b) = true := bne_iff_ne.2 hab
  have hne2 : (a == b) = false := by simpa using hab
  clear h1 h2 h hx hy ha hb wr2
  go_enter Tryz.func153, Tryz.ntmps153
  go_wp2_with (go_at_call 117; (with_reducible first | refine (H1.out _).mono ?_ | refine (H2.out _).mono ?_); rintro e w1 ⟨rfl, rfl⟩)
  all_goals
   go_ret
   exact ⟨rfl, rfl⟩
theorem litOrd_any (W : World) (x y : VL) : Calls Tryz.prog 152 #[.int .i64 x.1, .int .i64 y.1] W fun e w' => e = .returned (.int .i64 (cmpL x.1 y.1)) ∧ ∃ q, w' = W.drewN q := by
 have h1 := litCmp_any W x.1 y.1 x.2 y.2;generalize cmpL x.1 y.1 = r at h1 ⊢;obtain ⟨x, _⟩ := x;obtain ⟨y, _⟩ := y;simp only at h1 ⊢
 go_enter Tryz.func152, Tryz.ntmps152
 go_wp2_with (go_at_call 153; refine h1.mono ?_; rintro e w1 ⟨rfl, rfl⟩)
 go_ret
 exact ⟨rfl, 0, rfl⟩
theorem swoL : SWO (ltOf fun x y : VL => cmpL x.1 y.1) where
 irrefl x := by unfold ltOf; rw [decide_eq_false_iff_not, cmpL_lt]; omega
 trans x y z h1 h2 := by
  unfold ltOf at *
  rw [decide_eq_true_eq, cmpL_lt] at *
  omega
 ntrans x y z h1 h2 := by
  unfold ltOf at *
  rw [decide_eq_false_iff_not, cmpL_lt] at *
  omega
theorem litIs_any (W : World) (p : Addr) (n x : Int) (h0 : -9223372036854775808 ≤ x) (h1 : x ≤ 9223372036854775807) (hp : W.cell? p = some (.int .i64 n)) :
  Calls Tryz.prog 149 #[.int .i64 x, .pointer (some p)] W fun e w' => e = .returned (.bool (!litOk x n)) ∧ ∃ q, w' = W.drewN q := by
 have hv := fun V => litValid_any V x n h0 h1;generalize litOk x n = r at hv ⊢;have HV := zqh hv;clear hv h0 h1
 go_enter Tryz.func149, Tryz.ntmps149
 go_wp2_with (go_at_call 134; (with_reducible refine (HV.out _).mono ?_); rintro e w1 ⟨rfl, rfl⟩)
 go_ret
 exact ⟨rfl, 0, rfl⟩
theorem all_r64 (n : Int) : ∀ l : List Int, (∀ x ∈ l, -9223372036854775808 ≤ x ∧ x ≤ 9223372036854775807) → (l.map r64Of).any (fun x => !litOk x.1 n) = !(l.all fun x => litOk x n)
 | [], _ => rfl
 | a :: l, h => by
   rw [List.map_cons, List.any_cons, List.all_cons, all_r64 n l (fun x hx => h x (List.mem_cons_of_mem _ hx)), r64Of_val (h a (List.mem_cons_self ..)), Bool.not_and]
theorem litAll_any (w : World) (A : Option Addr) (c : Nat) (l : List Int) (n : Int) (hl : l.length ≤ 1000000) (hr : ∀ x ∈ l, -9223372036854775808 ≤ x ∧ x ≤ 9223372036854775807) (hA : Rd w w.heap.size A l.length (intF l)) :
  Calls Tryz.prog 111 #[.slice A l.length c, .int .i64 n] w fun e w' => e = .returned (.bool (l.all fun x => litOk x n)) ∧ Below w.heap.size w w' := by
 have hb0 : Below w.heap.size w (w.alloc (.cells #[.int .i64 n] 3)) := (zqr _ _).alloc (zqn _) _;have r0 := arrNew w #[.int .i64 n] 3 w.heap.size 1 rfl rfl;have eg : ∀ args w, (callFunc 149 args).run Tryz.prog w = .ok (.enter 149 args) w := enters_of Tryz.func149 (by kernel_rfl) rfl
 have hcon : Calls Tryz.prog 94 #[.slice A l.length c, .func (.func 149) #[] #[.pointer (some ⟨w.heap.size, 0, none⟩)]] (w.alloc (.cells #[.int .i64 n] 3)) fun e w' => e = .returned (.bool (!(l.all fun x => litOk x n))) ∧ Below w.heap.size w w' := by
  rcases l with _ | ⟨a, l⟩
  ·refine (AnyE.slices_ContainsFunc_empty contL A c _ _).mono ?_;rintro e w' ⟨rfl, rfl⟩;exact ⟨rfl, hb0⟩
  ·obtain ⟨b, o, rfl, hb, hc⟩ := hA (by simp)
   have := AnyE.slices_ContainsFunc contL (fun x : R64 => Value.int .i64 x.1) (fun x => !litOk x.1 n) 149 #[.pointer (some ⟨w.heap.size, 0, none⟩)] eg b o (a :: l).length c ((a :: l).map r64Of) (w.alloc (.cells #[.int .i64 n] 3))
    (fun W x hW => litIs_any W ⟨w.heap.size, 0, none⟩ n x.1 x.2.1 x.2.2 ((rowBelow r0 hW).cell (i := 0) (by decide))) (by simp) (by omega) (fun j hj => by
     rw [List.length_map] at hj;rw [hb0.cell (p := ⟨b, o + j, none⟩) hb, hc j hj];unfold intF;rw [getElem!_pos _ j (by simpa using hj), List.getElem_map, r64Of_val (hr _ (List.getElem_mem hj)), List.getD_eq_getElem?_getD, List.getElem?_eq_getElem hj]
     rfl)
   refine (show Calls Tryz.prog 94 _ _ _ from this).mono ?_;rintro e w' ⟨rfl, q, rfl⟩;refine ⟨?_, belowDrewN hb0 q⟩;rw [List.take_of_length_le (by simp), all_r64 n _ hr]
 obtain ⟨r, hr2⟩ : ∃ r, (l.all fun x => litOk x n) = r := ⟨_, rfl⟩;rw [hr2] at hcon ⊢;obtain ⟨m, hm⟩ : ∃ m, l.length = m := ⟨_, rfl⟩;rw [hm] at hcon ⊢;have HC := zqh hcon;clear hcon hr2 hr hA hl r0 eg hb0 hm
 go_enter Tryz.func111, Tryz.ntmps111
 go_wp2_with (go_at_call 94; (with_reducible refine HC.out.mono ?_); rintro e w1 ⟨rfl, hb⟩)
 go_ret
 exact ⟨by simp, hb⟩
end Go.Proofs.YtmhllppjcilllaaGreatDoor
