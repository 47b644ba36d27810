import Derived.Test.YtoljkoifgnmbgaaGreatDoorVj
set_option linter.unusedSimpArgs false
set_option linter.unusedVariables false
set_option maxRecDepth 100000
set_option maxHeartbeats 2000000
open Go Go.RowKit Cs
namespace Go.Proofs.YtoljkoifgnmbgaaGreatDoor
theorem new_err (w : World) (N : Nt) (A : Option Addr) (c ml mh cl ch : Nat) (Al Ah : Option Addr) (R : Int) (hR : R ≠ 0)
  (hck : ∀ W, Below w.heap.size w W → Calls Tryz.prog 40 #[ntV N A c, wtsV Al Ah ml mh cl ch] W fun e w' => e = .returned (.int .i64 R) ∧ Below W.heap.size W w') :
  Calls Tryz.prog 15 #[ntV N A c, wtsV Al Ah ml mh cl ch] w fun e w' => e = .returned (.tuple #[.pointer none, .int .i64 R]) ∧ Below w.heap.size w w' := by
 have HCK := zqh hck;have h1 : (R != 0) = true := bne_iff_ne.2 hR
 have h2 : (R == 0) = false := by simpa using hR
 have h3 : ¬ R = 0 := hR;have a3 := ((Below.refl w.heap.size w).alloc (zqn _) (.cells #[.int .i64 N.n, .slice A N.l.length c] 24)).alloc (by simp) (.cells #[.slice Al ml cl, .slice Ah mh ch] 30);clear hck hR
 go_enter Tryz.func15, Tryz.ntmps15
 go_wp2_with (go_at_call 40; (with_reducible refine (HCK.out _ a3).mono ?_); rintro e w9 ⟨rfl, hb9⟩)
 all_goals
  go_ret2
  exact ⟨rfl, zqx a3 hb9 a3.size⟩
structure NoSes (w : World) (p : Value) : Prop where
 no : ∀ W, Below w.heap.size w W → Calls Tryz.prog 58 #[p] W fun e w' => e = .returned (.bool true) ∧ W = w'
theorem NoSes.nil (w : World) : NoSes w (.pointer none) := ⟨fun W _ => none_nil W⟩
theorem NoSes.new (w : World) (b : Nat) (h : w.cell? ⟨b, 1, none⟩ = some (.slice none 0 0)) : NoSes w (.pointer (some ⟨b, 0, none⟩)) := ⟨fun W hb => none_new W b ((hb.cell (p := ⟨b, 1, none⟩) (World.block_lt_of_cell? _ _ h)).trans h)⟩
theorem NoSes.below {w w' : World} {p : Value} (h : NoSes w p) (hb : Below w.heap.size w w') : NoSes w' p := ⟨fun W h2 => h.no W (zqx hb h2 hb.size)⟩
theorem push_no (w : World) (p : Value) (l : Int) (h : NoSes w p) : Calls Tryz.prog 22 #[p, .int .i64 l] w fun e w' => e = .returned (.int .i64 9) ∧ w = w' := by
 have HN := zqh (h.no w (zqr _ _));clear h
 go_enter Tryz.func22, Tryz.ntmps22
 go_wp2_with (go_at_call 58; (with_reducible refine HN.out.mono ?_); rintro e w9 ⟨rfl, rfl⟩)
 all_goals
  go_ret
  exact ⟨rfl, rfl⟩
theorem pop_no (w : World) (p : Value) (h : NoSes w p) : Calls Tryz.prog 20 #[p] w fun e w' => e = .returned (.int .i64 9) ∧ w = w' := by
 have HN := zqh (h.no w (zqr _ _));clear h
 go_enter Tryz.func20, Tryz.ntmps20
 go_wp2_with (go_at_call 58; (with_reducible refine HN.out.mono ?_); rintro e w9 ⟨rfl, rfl⟩)
 all_goals
  go_ret
  exact ⟨rfl, rfl⟩
theorem term_no (w : World) (p : Value) (h : NoSes w p) : Calls Tryz.prog 26 #[p] w fun e w' => e = .returned (.slice none 0 0) ∧ w = w' := by
 have HN := zqh (h.no w (zqr _ _));clear h
 go_enter Tryz.func26, Tryz.ntmps26
 go_wp2_with (go_at_call 58; (with_reducible refine HN.out.mono ?_); rintro e w9 ⟨rfl, rfl⟩)
 all_goals
  go_ret
  exact ⟨rfl, rfl⟩
theorem touched_no (w : World) (p : Value) (h : NoSes w p) : Calls Tryz.prog 27 #[p] w fun e w' => e = .returned (.int .i64 0) ∧ w = w' := by
 have HN := zqh (h.no w (zqr _ _));clear h
 go_enter Tryz.func27, Tryz.ntmps27
 go_wp2_with (go_at_call 58; (with_reducible refine HN.out.mono ?_); rintro e w9 ⟨rfl, rfl⟩)
 all_goals
  go_ret
  exact ⟨rfl, rfl⟩
theorem count_no (w : World) (p : Value) (h : NoSes w p) : Calls Tryz.prog 24 #[p] w fun e w' => e = .returned (.tuple #[natV 0, .int .i64 9]) ∧ Below w.heap.size w w' := by
 have HN := zqh h.no;have a1 := arrNew w #[.string ⟨#[]⟩] 54 w.heap.size 1 rfl rfl;have a2 := (Below.refl w.heap.size w).alloc (zqn _) (.cells #[.string ⟨#[]⟩] 54)
 have a4 := a1.congr (g := fun _ => .string (natB 0)) fun i hi => by
  obtain rfl : i = 0 := by omega
  rw [natB_zero]; rfl
 clear h
 go_enter Tryz.func24, Tryz.ntmps24
 go_wp2_with (go_at_call 58; (with_reducible refine (HN.out _ a2).mono ?_); rintro e w9 ⟨rfl, rfl⟩)
 all_goals
  exact ret_nat_slot' (b := .int .i64 9) rfl 0 rfl rfl a4 rfl ⟨rfl, a2⟩
theorem weight_no (w : World) (p : Value) (h : NoSes w p) : Calls Tryz.prog 25 #[p] w fun e w' => e = .returned (.tuple #[ratV 0 0, .int .i64 9]) ∧ Below w.heap.size w w' := by
 have HN := zqh h.no;have a1 := arrNew w #[.string ⟨#[]⟩, .string ⟨#[]⟩] 60 w.heap.size 2 rfl rfl;have a2 := (Below.refl w.heap.size w).alloc (zqn _) (.cells #[.string ⟨#[]⟩, .string ⟨#[]⟩] 60);have a4 := ratRow0 a1;clear h
 go_enter Tryz.func25, Tryz.ntmps25
 go_wp2_with (go_at_call 58; (with_reducible refine (HN.out _ a2).mono ?_); rintro e w9 ⟨rfl, rfl⟩)
 all_goals
  exact ret_rat_slot (b := .int .i64 9) rfl 0 0 rfl rfl a4 rfl ⟨rfl, a2⟩
end Go.Proofs.YtoljkoifgnmbgaaGreatDoor
