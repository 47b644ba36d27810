import Derived.Test.YtoljkoifgnmbgaaGreatDoorVl
set_option linter.unusedSimpArgs false
set_option linter.unusedVariables false
set_option maxRecDepth 100000
set_option maxHeartbeats 8000000
open Go Go.RowKit Cs
namespace Go.Proofs.YtoljkoifgnmbgaaGreatDoor
def zeroBox : Array Value := #[.int .i64 0, .slice none 0 0, .slice none 0 0, .slice none 0 0, .int .i64 0, .string ⟨#[]⟩, .nilFunc, .nilFunc, .slice none 0 0, .slice none 0 0, .slice none 0 0, .string ⟨#[]⟩, .string ⟨#[]⟩, .nilFunc, .nilFunc, .slice none 0 0, .slice none 0 0, .slice none 0 0, .slice none 0 0, .slice none 0 0]
theorem unil_any (w : World) (l : Int) (hT : Tab w) : Calls Tryz.prog 5 #[.int .i64 l] w fun e w' => e = .returned (.bool true) ∧ Below w.heap.size w w' := by
 have b0 : Below w.heap.size w (w.alloc (.cells zeroBox 65)) := (zqr _ _).alloc (zqn _) _;have hz := arrNew w zeroBox 65 w.heap.size 20 rfl rfl;have hm0 : NoSes (w.alloc (.cells zeroBox 65)) (.pointer (some ⟨w.heap.size, 0, none⟩)) := NoSes.new _ _ (hz.cell (i := 1) (by decide));have HM0 := zqh hm0;have HT := zqh hT;clear hz hm0 hT
 go_enter Tryz.func5, Tryz.ntmps5
 go_wp2_with (first
  | (go_at_call 24; (with_reducible refine (count_no _ (.pointer none) (NoSes.nil _)).mono ?_); rintro e w1 ⟨rfl, h1⟩; have b1 := (zqx b0 h1 b0.size).alloc (Nat.le_trans b0.size h1.size) (.cells #[.string (natB 0)] 54); have HM1 := zqh ((HM0.out.below h1).below ((zqr _ _).alloc (zqn _) (.cells #[.string (natB 0)] 54))))
  | (go_at_call 25; (with_reducible refine (weight_no _ (.pointer none) (NoSes.nil _)).mono ?_); rintro e w2 ⟨rfl, h2⟩; have b2 := (zqx b1 h2 b1.size).alloc (Nat.le_trans b1.size h2.size) (.cells #[.string (natB 0), .string (natB 0)] 60); have HM2 := zqh ((HM1.out.below h2).below ((zqr _ _).alloc (zqn _) (.cells #[.string (natB 0), .string (natB 0)] 60))))
  | (go_at_call 24; (with_reducible refine (count_no _ (.pointer (some ⟨w.heap.size, 0, none⟩)) HM2.out).mono ?_); rintro e w3 ⟨rfl, h3⟩; have b3 := (zqx b2 h3 b2.size).alloc (Nat.le_trans b2.size h3.size) (.cells #[.string (natB 0)] 54); have HM3 := zqh ((HM2.out.below h3).below ((zqr _ _).alloc (zqn _) (.cells #[.string (natB 0)] 54))))
  | (go_at_call 25; (with_reducible refine (weight_no _ (.pointer (some ⟨w.heap.size, 0, none⟩)) HM3.out).mono ?_); rintro e w4 ⟨rfl, h4⟩; have b4 := (zqx b3 h4 b3.size).alloc (Nat.le_trans b3.size h4.size) (.cells #[.string (natB 0), .string (natB 0)] 60); have HM4 := zqh ((HM3.out.below h4).below ((zqr _ _).alloc (zqn _) (.cells #[.string (natB 0), .string (natB 0)] 60))))
  | (go_at_call 22; (with_reducible first | refine (push_no _ (.pointer none) l (NoSes.nil _)).mono ?_ | refine (push_no _ (.pointer (some ⟨w.heap.size, 0, none⟩)) l HM4.out).mono ?_); rintro e w5 ⟨rfl, rfl⟩)
  | (go_at_call 20; (with_reducible first | refine (pop_no _ (.pointer none) (NoSes.nil _)).mono ?_ | refine (pop_no _ (.pointer (some ⟨w.heap.size, 0, none⟩)) HM4.out).mono ?_); rintro e w5 ⟨rfl, rfl⟩)
  | (go_at_call 26; (with_reducible first | refine (term_no _ (.pointer none) (NoSes.nil _)).mono ?_ | refine (term_no _ (.pointer (some ⟨w.heap.size, 0, none⟩)) HM4.out).mono ?_); rintro e w5 ⟨rfl, rfl⟩)
  | (go_at_call 27; (with_reducible first | refine (touched_no _ (.pointer none) (NoSes.nil _)).mono ?_ | refine (touched_no _ (.pointer (some ⟨w.heap.size, 0, none⟩)) HM4.out).mono ?_); rintro e w5 ⟨rfl, rfl⟩)
  | (go_at_call 13; (with_reducible refine (works_any _ (HT.out.below b4)).mono ?_); rintro e w6 ⟨rfl, h6⟩))
 all_goals
  go_ret
  exact ⟨rfl, zqx b4 h6 b4.size⟩
end Go.Proofs.YtoljkoifgnmbgaaGreatDoor
