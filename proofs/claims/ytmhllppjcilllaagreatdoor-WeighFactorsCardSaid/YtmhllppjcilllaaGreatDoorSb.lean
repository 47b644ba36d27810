import Derived.Test.YtmhllppjcilllaaGreatDoorDk
import Derived.Test.YtmhllppjcilllaaGreatDoorZa
set_option linter.unusedSimpArgs false
set_option linter.unusedVariables false
set_option maxRecDepth 100000
set_option maxHeartbeats 1000000
open Go Go.RowKit Cs
namespace Go.Proofs.YtmhllppjcilllaaGreatDoor
theorem qsub_any (w : World) (n d n' d' : Nat) (hn : n8 n ≤ 100000) (hd : n8 d ≤ 100000) (hn' : n8 n' ≤ 100000) (hd' : n8 d' ≤ 100000) (hle : qq n' d' ≤ qq n d) :
  Calls Tryz.prog 60 #[ratV n d, ratV n' d'] w fun e w' => e = .returned (.tuple #[ratV (qn (qq n d - qq n' d')) (qq n d - qq n' d').den, .bool true]) ∧ Below w.heap.size w w' := by
 have b1 := n8_mul n (qd d');have b2 := n8_mul n' (qd d);have h1 := n8_qd d hd;have h2 := n8_qd d' hd';have hle2 : n' * qd d ≤ n * qd d' := Nat.le_of_not_lt fun h => absurd ((qq_lt_iff n d n' d').2 h) (Rat.not_lt.2 hle);have hj := fun W => join_sub W n d n' d' (n * qd d' - n' * qd d) hn hd hn' hd' (Nat.le_trans (n8_mono (Nat.sub_le _ _)) (by omega)) (fun W => sub_ge W _ _ (by omega) (by omega) hle2);simp only [qq_sub n d n' d' hle2] at hj
 generalize qn (qq n d - qq n' d') = N at *
 generalize (qq n d - qq n' d').den = D at *
 have HJ := zqh hj;clear hj b1 b2 h1 h2 hn hd hn' hd' hle hle2;have q0 := ((((Bag.zero w).new #[.string (natB n), .string (natB d)] 33 w.heap.size 2 rfl rfl).new #[.string (natB n'), .string (natB d')] 33 (w.heap.size + 1) 2 (by simp) rfl).new #[.string ⟨#[]⟩, .string ⟨#[]⟩] 33 (w.heap.size + 1 + 1) 2 (by simp) rfl)
 go_enter Tryz.func60, Tryz.ntmps60
 go_wp2_with (
  go_at_call 69
  (with_reducible refine (HJ.out _).mono ?_)
  rintro e w1 ⟨rfl, hb1⟩;have q1 := q0.below hb1;have hr := q1.rows (w.heap.size + 1 + 1, 33, 2, #[.string ⟨#[]⟩, .string ⟨#[]⟩]) (by simp);have y1 := hr.frozen 0;have y2 := hr.frozen 1;have z1 := q1.is (w.heap.size + 1 + 1) 2 33 #[.string ⟨#[]⟩, .string ⟨#[]⟩] (by simp) 0 (by decide) (Value.string ⟨#[]⟩) rfl
  have z2 := q1.is (w.heap.size + 1 + 1) 2 33 #[.string ⟨#[]⟩, .string ⟨#[]⟩] (by simp) 1 (by decide) (Value.string ⟨#[]⟩) rfl)
 have hs := (pairRow hr (.string (natB N)) (.string (natB D))).congr (ratF_arr N D);have hb := (q1.bl.setCell (p := ⟨w.heap.size + 1 + 1, 0, none⟩) (by simp; omega) (.string (natB N))).setCell (p := ⟨w.heap.size + 1 + 1, 1, none⟩) (by simp; omega) (.string (natB D));exact ret_rat_slot rfl N D rfl rfl hs rfl ⟨rfl, hb⟩
end Go.Proofs.YtmhllppjcilllaaGreatDoor
