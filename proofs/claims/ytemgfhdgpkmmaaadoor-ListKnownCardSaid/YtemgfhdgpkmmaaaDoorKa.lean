/- The walk of ListKnown. -/
import Derived.Test.YtemgfhdgpkmmaaaDoorW2
set_option linter.unusedSimpArgs false
set_option linter.unusedVariables false
namespace Cs
open Go Go.RowKit
def twiceN : Nt := ⟨1, [⟨2, 1, []⟩, ⟨2, 1, []⟩, ⟨4, 0, [0, 1]⟩]⟩
def twiceNA (b2 : Nat) : Array Value := #[.int .i64 2, .int .i64 1, .slice none 0 0, .int .i64 2, .int .i64 1, .slice none 0 0, .int .i64 4, .int .i64 0, .slice (some ⟨b2, 0, none⟩) 2 2]
theorem twiceN_at {w : World} {B g b2 : Nat} {t : TypeId} {s : TypeId} (hg : g < B) (h2 : b2 < B) (r2 : w.rowIs b2 s 2 (arrF #[.int .i64 0, .int .i64 1])) (hr : w.rowIs g t 9 (arrF (twiceNA b2))) : NtAt w B (some ⟨g, 0, none⟩) twiceN.l := fun _ => by
  refine ⟨g, 0, rfl, hg, fun i hi => ?_⟩
  match i, hi with
  | 0, _ => exact ⟨hr.cell (i := 0) (by decide), hr.cell (i := 1) (by decide), ⟨none, 0, hr.cell (i := 2) (by decide), Rd.zero _ _ _ _⟩, (show r64 (2) by unfold r64; decide), (show r64 (1) by unfold r64; decide), (show ∀ i ∈ ([] : List Int), r64 i by unfold r64; decide), (show ([] : List Int).length ≤ 140737488355328 by decide)⟩
  | 1, _ => exact ⟨hr.cell (i := 3) (by decide), hr.cell (i := 4) (by decide), ⟨none, 0, hr.cell (i := 5) (by decide), Rd.zero _ _ _ _⟩, (show r64 (2) by unfold r64; decide), (show r64 (1) by unfold r64; decide), (show ∀ i ∈ ([] : List Int), r64 i by unfold r64; decide), (show ([] : List Int).length ≤ 140737488355328 by decide)⟩
  | 2, _ => exact ⟨hr.cell (i := 6) (by decide), hr.cell (i := 7) (by decide), ⟨some ⟨b2, 0, none⟩, 2, hr.cell (i := 8) (by decide), Rd.of_row (r2.congr fun j hj => by
      match j, hj with
      | 0, _ => rfl
      | 1, _ => rfl
      ) (Nat.le_refl _) h2⟩, (show r64 (4) by unfold r64; decide), (show r64 (0) by unfold r64; decide), (show ∀ i ∈ ([0, 1] : List Int), r64 i by unfold r64; decide), (show ([0, 1] : List Int).length ≤ 140737488355328 by decide)⟩
def gapN : Nt := ⟨1, [⟨2, 1, []⟩, ⟨3, 0, [0, 0]⟩]⟩
def gapNA (b1 : Nat) : Array Value := #[.int .i64 2, .int .i64 1, .slice none 0 0, .int .i64 3, .int .i64 0, .slice (some ⟨b1, 0, none⟩) 2 2]
theorem gapN_at {w : World} {B g b1 : Nat} {t : TypeId} {s : TypeId} (hg : g < B) (h1 : b1 < B) (r1 : w.rowIs b1 s 2 (arrF #[.int .i64 0, .int .i64 0])) (hr : w.rowIs g t 6 (arrF (gapNA b1))) : NtAt w B (some ⟨g, 0, none⟩) gapN.l := fun _ => by
  refine ⟨g, 0, rfl, hg, fun i hi => ?_⟩
  match i, hi with
  | 0, _ => exact ⟨hr.cell (i := 0) (by decide), hr.cell (i := 1) (by decide), ⟨none, 0, hr.cell (i := 2) (by decide), Rd.zero _ _ _ _⟩, (show r64 (2) by unfold r64; decide), (show r64 (1) by unfold r64; decide), (show ∀ i ∈ ([] : List Int), r64 i by unfold r64; decide), (show ([] : List Int).length ≤ 140737488355328 by decide)⟩
  | 1, _ => exact ⟨hr.cell (i := 3) (by decide), hr.cell (i := 4) (by decide), ⟨some ⟨b1, 0, none⟩, 2, hr.cell (i := 5) (by decide), Rd.of_row (r1.congr fun j hj => by
      match j, hj with
      | 0, _ => rfl
      | 1, _ => rfl
      ) (Nat.le_refl _) h1⟩, (show r64 (3) by unfold r64; decide), (show r64 (0) by unfold r64; decide), (show ∀ i ∈ ([0, 0] : List Int), r64 i by unfold r64; decide), (show ([0, 0] : List Int).length ≤ 140737488355328 by decide)⟩
def falseN : Nt := ⟨2, [⟨0, 0, []⟩]⟩
def falseNA : Array Value := #[.int .i64 0, .int .i64 0, .slice none 0 0]
theorem falseN_at {w : World} {B g : Nat} {t : TypeId} (hg : g < B) (hr : w.rowIs g t 3 (arrF (falseNA ))) : NtAt w B (some ⟨g, 0, none⟩) falseN.l := fun _ => by
  refine ⟨g, 0, rfl, hg, fun i hi => ?_⟩
  match i, hi with
  | 0, _ => exact ⟨hr.cell (i := 0) (by decide), hr.cell (i := 1) (by decide), ⟨none, 0, hr.cell (i := 2) (by decide), Rd.zero _ _ _ _⟩, (show r64 (0) by unfold r64; decide), (show r64 (0) by unfold r64; decide), (show ∀ i ∈ ([] : List Int), r64 i by unfold r64; decide), (show ([] : List Int).length ≤ 140737488355328 by decide)⟩
end Cs
open Go Go.RowKit Cs
namespace Go.Proofs.YtemgfhdgpkmmaaaDoor
theorem kn_seek0 : skR sampN 0 = .tuple #[.agg #[.int .u64 2, .int .u64 0], .bool true, .int .i64 0] := by
  have h : lerr sampN 0 = 0 := by decide +kernel
  have h1 : (seekN sampN 0).set = 2 := by decide +kernel
  have h2 : (seekN sampN 0).ok = true := by decide +kernel
  unfold skR skV
  rw [if_pos h, h1, h2]; rfl
theorem kn_seek6 : skR sampN 6 = .tuple #[.agg #[.int .u64 6, .int .u64 0], .bool true, .int .i64 0] := by
  have h : lerr sampN 6 = 0 := by decide +kernel
  have h1 : (seekN sampN 6).set = 6 := by decide +kernel
  have h2 : (seekN sampN 6).ok = true := by decide +kernel
  unfold skR skV
  rw [if_pos h, h1, h2]; rfl
theorem kn_seek1 : skR sampN 1 = .tuple #[.agg #[.int .u64 5, .int .u64 0], .bool true, .int .i64 0] := by
  have h : lerr sampN 1 = 0 := by decide +kernel
  have h1 : (seekN sampN 1).set = 5 := by decide +kernel
  have h2 : (seekN sampN 1).ok = true := by decide +kernel
  unfold skR skV
  rw [if_pos h, h1, h2]; rfl
theorem kn_seek7 : skR sampN 7 = .tuple #[.agg #[.int .u64 7, .int .u64 0], .bool true, .int .i64 0] := by
  have h : lerr sampN 7 = 0 := by decide +kernel
  have h1 : (seekN sampN 7).set = 7 := by decide +kernel
  have h2 : (seekN sampN 7).ok = true := by decide +kernel
  unfold skR skV
  rw [if_pos h, h1, h2]; rfl
theorem kn_seek8 : skR sampN 8 = .tuple #[.agg #[.int .u64 0, .int .u64 0], .bool false, .int .i64 1] := by
  have h : lerr sampN 8 = 1 := by decide +kernel
  unfold skR skV
  rw [if_neg (by rw [h]; decide), h]; rfl
theorem kn_seekF : skR falseN 0 = .tuple #[.agg #[.int .u64 0, .int .u64 0], .bool false, .int .i64 0] := by
  have h : lerr falseN 0 = 0 := by decide +kernel
  have h1 : (seekN falseN 0).set = 0 := by decide +kernel
  have h2 : (seekN falseN 0).ok = false := by decide +kernel
  unfold skR skV
  rw [if_pos h, h1, h2]; rfl
theorem kn_rank0 : rkR sampN 0 = .tuple #[natV 0, .int .i64 0] := by
  have h0 : lerr sampN 0 = 0 := by decide +kernel
  have h1 : cchk sampN = 0 := by decide +kernel
  have h2 : rerr sampN 0 = 0 := by unfold rerr; rw [if_pos h0]; exact h1
  have h : rankN sampN 0 = 0 := by decide +kernel
  unfold rkR
  rw [if_pos h2, h]
theorem kn_rank6 : rkR sampN 6 = .tuple #[natV 1, .int .i64 0] := by
  have h0 : lerr sampN 6 = 0 := by decide +kernel
  have h1 : cchk sampN = 0 := by decide +kernel
  have h2 : rerr sampN 6 = 0 := by unfold rerr; rw [if_pos h0]; exact h1
  have h : rankN sampN 6 = 1 := by decide +kernel
  unfold rkR
  rw [if_pos h2, h]
theorem kn_rank1 : rkR sampN 1 = .tuple #[natV 2, .int .i64 0] := by
  have h0 : lerr sampN 1 = 0 := by decide +kernel
  have h1 : cchk sampN = 0 := by decide +kernel
  have h2 : rerr sampN 1 = 0 := by unfold rerr; rw [if_pos h0]; exact h1
  have h : rankN sampN 1 = 2 := by decide +kernel
  unfold rkR
  rw [if_pos h2, h]
theorem kn_rank7 : rkR sampN 7 = .tuple #[natV 3, .int .i64 0] := by
  have h0 : lerr sampN 7 = 0 := by decide +kernel
  have h1 : cchk sampN = 0 := by decide +kernel
  have h2 : rerr sampN 7 = 0 := by unfold rerr; rw [if_pos h0]; exact h1
  have h : rankN sampN 7 = 3 := by decide +kernel
  unfold rkR
  rw [if_pos h2, h]
theorem kn_rankT : rkR twiceN 1 = .tuple #[natV 0, .int .i64 0] := by
  have h0 : lerr twiceN 1 = 0 := by decide +kernel
  have h1 : cchk twiceN = 0 := by decide +kernel
  have h2 : rerr twiceN 1 = 0 := by unfold rerr; rw [if_pos h0]; exact h1
  have h : rankN twiceN 1 = 0 := by decide +kernel
  unfold rkR
  rw [if_pos h2, h]
theorem kn_rankG : rkR gapN 0 = .tuple #[natV 0, .int .i64 210] := by
  have h0 : lerr gapN 0 = 210 := by decide +kernel
  have h2 : rerr gapN 0 = 210 := by unfold rerr; rw [if_neg (by rw [h0]; decide)]; exact h0
  unfold rkR
  rw [if_neg (by rw [h2]; decide), h2]
theorem kn_atT : atR twiceN 1 = .tuple #[.agg #[.int .u64 1, .int .u64 0], .bool true, .int .i64 0] := by
  have h0 : lerr twiceN 0 = 0 := by decide +kernel
  have hc : cchk twiceN = 0 := by decide +kernel
  have h1 : (atN twiceN 1).set = 1 := by decide +kernel
  have h2 : (atN twiceN 1).ok = true := by decide +kernel
  have h3 : rerr twiceN 0 = 0 := by unfold rerr; rw [if_pos h0]; exact hc
  unfold atR skV
  rw [if_pos h3, h1, h2]; rfl
theorem kc_seek0 (W : World) (g : Nat) (h : NtAt W W.heap.size (some ⟨g, 0, none⟩) sampN.l) (hT : Tab W) : Calls Tryd.prog 14 #[ntV sampN (some ⟨g, 0, none⟩) 7, .agg #[.int .u64 0, .int .u64 0]] W fun e w' => e = .returned (.tuple #[.agg #[.int .u64 2, .int .u64 0], .bool true, .int .i64 0]) ∧ Below W.heap.size W w' := by
  rw [← kn_seek0]
  exact seek_any W sampN _ 7 0 (by decide) h (by unfold IsSet; omega) hT
theorem kc_seek6 (W : World) (g : Nat) (h : NtAt W W.heap.size (some ⟨g, 0, none⟩) sampN.l) (hT : Tab W) : Calls Tryd.prog 14 #[ntV sampN (some ⟨g, 0, none⟩) 7, .agg #[.int .u64 6, .int .u64 0]] W fun e w' => e = .returned (.tuple #[.agg #[.int .u64 6, .int .u64 0], .bool true, .int .i64 0]) ∧ Below W.heap.size W w' := by
  rw [← kn_seek6]
  exact seek_any W sampN _ 7 6 (by decide) h (by unfold IsSet; omega) hT
theorem kc_seek1 (W : World) (g : Nat) (h : NtAt W W.heap.size (some ⟨g, 0, none⟩) sampN.l) (hT : Tab W) : Calls Tryd.prog 14 #[ntV sampN (some ⟨g, 0, none⟩) 7, .agg #[.int .u64 1, .int .u64 0]] W fun e w' => e = .returned (.tuple #[.agg #[.int .u64 5, .int .u64 0], .bool true, .int .i64 0]) ∧ Below W.heap.size W w' := by
  rw [← kn_seek1]
  exact seek_any W sampN _ 7 1 (by decide) h (by unfold IsSet; omega) hT
theorem kc_seek7 (W : World) (g : Nat) (h : NtAt W W.heap.size (some ⟨g, 0, none⟩) sampN.l) (hT : Tab W) : Calls Tryd.prog 14 #[ntV sampN (some ⟨g, 0, none⟩) 7, .agg #[.int .u64 7, .int .u64 0]] W fun e w' => e = .returned (.tuple #[.agg #[.int .u64 7, .int .u64 0], .bool true, .int .i64 0]) ∧ Below W.heap.size W w' := by
  rw [← kn_seek7]
  exact seek_any W sampN _ 7 7 (by decide) h (by unfold IsSet; omega) hT
theorem kc_seek8 (W : World) (g : Nat) (h : NtAt W W.heap.size (some ⟨g, 0, none⟩) sampN.l) (hT : Tab W) : Calls Tryd.prog 14 #[ntV sampN (some ⟨g, 0, none⟩) 7, .agg #[.int .u64 8, .int .u64 0]] W fun e w' => e = .returned (.tuple #[.agg #[.int .u64 0, .int .u64 0], .bool false, .int .i64 1]) ∧ Below W.heap.size W w' := by
  rw [← kn_seek8]
  exact seek_any W sampN _ 7 8 (by decide) h (by unfold IsSet; omega) hT
theorem kc_seekF (W : World) (g : Nat) (h : NtAt W W.heap.size (some ⟨g, 0, none⟩) falseN.l) (hT : Tab W) : Calls Tryd.prog 14 #[ntV falseN (some ⟨g, 0, none⟩) 1, .agg #[.int .u64 0, .int .u64 0]] W fun e w' => e = .returned (.tuple #[.agg #[.int .u64 0, .int .u64 0], .bool false, .int .i64 0]) ∧ Below W.heap.size W w' := by
  rw [← kn_seekF]
  exact seek_any W falseN _ 1 0 (by decide) h (by unfold IsSet; omega) hT
theorem kc_rank0 (W : World) (g : Nat) (h : NtAt W W.heap.size (some ⟨g, 0, none⟩) sampN.l) (hT : Tab W) : Calls Tryd.prog 22 #[ntV sampN (some ⟨g, 0, none⟩) 7, .agg #[.int .u64 0, .int .u64 0]] W fun e w' => e = .returned (.tuple #[natV 0, .int .i64 0]) ∧ Below W.heap.size W w' := by
  rw [← kn_rank0]
  exact rank_any W sampN _ 7 0 (by decide) h (by unfold IsSet; omega) hT
theorem kc_rank6 (W : World) (g : Nat) (h : NtAt W W.heap.size (some ⟨g, 0, none⟩) sampN.l) (hT : Tab W) : Calls Tryd.prog 22 #[ntV sampN (some ⟨g, 0, none⟩) 7, .agg #[.int .u64 6, .int .u64 0]] W fun e w' => e = .returned (.tuple #[natV 1, .int .i64 0]) ∧ Below W.heap.size W w' := by
  rw [← kn_rank6]
  exact rank_any W sampN _ 7 6 (by decide) h (by unfold IsSet; omega) hT
theorem kc_rank1 (W : World) (g : Nat) (h : NtAt W W.heap.size (some ⟨g, 0, none⟩) sampN.l) (hT : Tab W) : Calls Tryd.prog 22 #[ntV sampN (some ⟨g, 0, none⟩) 7, .agg #[.int .u64 1, .int .u64 0]] W fun e w' => e = .returned (.tuple #[natV 2, .int .i64 0]) ∧ Below W.heap.size W w' := by
  rw [← kn_rank1]
  exact rank_any W sampN _ 7 1 (by decide) h (by unfold IsSet; omega) hT
theorem kc_rank7 (W : World) (g : Nat) (h : NtAt W W.heap.size (some ⟨g, 0, none⟩) sampN.l) (hT : Tab W) : Calls Tryd.prog 22 #[ntV sampN (some ⟨g, 0, none⟩) 7, .agg #[.int .u64 7, .int .u64 0]] W fun e w' => e = .returned (.tuple #[natV 3, .int .i64 0]) ∧ Below W.heap.size W w' := by
  rw [← kn_rank7]
  exact rank_any W sampN _ 7 7 (by decide) h (by unfold IsSet; omega) hT
theorem kc_rankT (W : World) (g : Nat) (h : NtAt W W.heap.size (some ⟨g, 0, none⟩) twiceN.l) (hT : Tab W) : Calls Tryd.prog 22 #[ntV twiceN (some ⟨g, 0, none⟩) 3, .agg #[.int .u64 1, .int .u64 0]] W fun e w' => e = .returned (.tuple #[natV 0, .int .i64 0]) ∧ Below W.heap.size W w' := by
  rw [← kn_rankT]
  exact rank_any W twiceN _ 3 1 (by decide) h (by unfold IsSet; omega) hT
theorem kc_rankG (W : World) (g : Nat) (h : NtAt W W.heap.size (some ⟨g, 0, none⟩) gapN.l) (hT : Tab W) : Calls Tryd.prog 22 #[ntV gapN (some ⟨g, 0, none⟩) 2, .agg #[.int .u64 0, .int .u64 0]] W fun e w' => e = .returned (.tuple #[natV 0, .int .i64 210]) ∧ Below W.heap.size W w' := by
  rw [← kn_rankG]
  exact rank_any W gapN _ 2 0 (by decide) h (by unfold IsSet; omega) hT
theorem kc_atT (W : World) (g : Nat) (h : NtAt W W.heap.size (some ⟨g, 0, none⟩) twiceN.l) (hT : Tab W) : Calls Tryd.prog 23 #[ntV twiceN (some ⟨g, 0, none⟩) 3, natV 1] W fun e w' => e = .returned (.tuple #[.agg #[.int .u64 1, .int .u64 0], .bool true, .int .i64 0]) ∧ Below W.heap.size W w' := by
  rw [← kn_atT]
  exact at_any W twiceN _ 3 1 (by decide) h (by decide +kernel) hT
theorem kc_of (W : World) (n : Nat) (hn : n < 100) : Calls Tryd.prog 20 #[.int .u64 (n : Int)] W fun e w' => e = .returned (natV n) ∧ Below W.heap.size W w' := of_any W n (by omega)
theorem kc_of0 (W : World) : Calls Tryd.prog 20 #[.int .u64 0] W fun e w' => e = .returned (natV 0) ∧ Below W.heap.size W w' := kc_of W 0 (by decide)
theorem kc_of1 (W : World) : Calls Tryd.prog 20 #[.int .u64 1] W fun e w' => e = .returned (natV 1) ∧ Below W.heap.size W w' := kc_of W 1 (by decide)
theorem kc_of2 (W : World) : Calls Tryd.prog 20 #[.int .u64 2] W fun e w' => e = .returned (natV 2) ∧ Below W.heap.size W w' := kc_of W 2 (by decide)
theorem kc_of3 (W : World) : Calls Tryd.prog 20 #[.int .u64 3] W fun e w' => e = .returned (natV 3) ∧ Below W.heap.size W w' := kc_of W 3 (by decide)
end Go.Proofs.YtemgfhdgpkmmaaaDoor
