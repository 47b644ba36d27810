import Derived.Test.YtmhllppjcilllaaGreatDoorN4
import Derived.IntWalk
import Derived.Test.YtmhllppjcilllaaGreatDoorHp
set_option linter.unusedSimpArgs false
set_option linter.unusedVariables false
section
set_option maxRecDepth 100000
set_option maxHeartbeats 1000000
open Go Go.RowKit Cs
namespace Cs
def slim (l : List Nd) : Bool := l.all fun x => decide (x.ins.length ≤ 40)
def lightB (N : Nt) (m : Nat) : Bool := slim N.l && decide (N.l.length ≤ m)
theorem slim_take {l : List Nd} {k : Nat} (h : k < l.length) : slim (l.take (k + 1)) = (slim (l.take k) && decide (l[k].ins.length ≤ 40)) := by
 unfold slim;rw [List.take_succ_eq_append_getElem h, List.all_append];simp
theorem slim_not {l : List Nd} {k : Nat} (h : k < l.length) (h2 : ¬ l[k].ins.length ≤ 40) : slim l = false := by
 cases hs : slim l
 ·rfl
 ·unfold slim at hs;rw [List.all_eq_true] at hs;have := hs l[k] (List.getElem_mem h);simp only [decide_eq_true_eq] at this;exact absurd this h2
end Cs
namespace Go.Proofs.YtmhllppjcilllaaGreatDoor
theorem light_any (w : World) (N : Nt) (A : Option Addr) (c m : Nat) (hlen : N.l.length ≤ 140737488355328) (hN : NtAt w w.heap.size A N.l) (hm : m ≤ 1000) :
  Calls Tryz.prog 43 #[ntV N A c, .int .i64 (m : Int)] w fun e w' => e = .returned (.bool (lightB N m)) ∧ Below w.heap.size w w' := by
 obtain ⟨n, l⟩ := N;simp only at hlen hN;have hbl : Below w.heap.size w (w.alloc (.cells #[.int .i64 n, .slice A l.length c] 24)) := (zqr _ _).alloc (zqn _) _;have hbx := ntNew w ⟨n, l⟩ A c 24 _ rfl;obtain ⟨B, hB⟩ : ∃ B, lightB ⟨n, l⟩ m = B := ⟨_, rfl⟩;have hf : lightB ⟨n, l⟩ m = (slim l && decide (l.length ≤ m)) := rfl;rw [hB] at hf ⊢;have HF := zqh hf;clear hf hB
 go_enter Tryz.func43, Tryz.ntmps43
 go_wp2
 go_loopw [10] (fun t wr => ∃ k : Nat, k ≤ l.length ∧ t = .int .i64 k ∧ Hid (slim (l.take k) = true) ∧ wr.rowIs w.heap.size 24 2 (ntF ⟨n, l⟩ A c) ∧ Below w.heap.size w wr) (fun t _ => l.length - (intOf t).toNat)
 case atStart => exact ⟨0, by omega, rfl, rfl, hbx, hbl⟩
 case round =>
  clear hbx hbl;obtain ⟨k, hk, rfl, HS, hbx, hbl⟩ := hrel;by_cases hlt : k < l.length
  ·obtain ⟨b, o, rfl, hbB, hcs⟩ := hN (by omega);have hnd := hcs k hlt;clear hcs;have hst := slim_take hlt;have hno := fun h => slim_not hlt h;obtain ⟨x, hx⟩ : ∃ x, l[k] = x := ⟨_, rfl⟩;rw [hx] at hnd hst;simp only [hx] at hno;obtain ⟨hk1, hk2, ⟨A', c', hk3, hrd⟩, hr1, hr2, hr3, hr4⟩ := hnd;replace hk1 := below_cell hbl hbB hk1;replace hk2 := below_cell hbl hbB hk2;replace hk3 := below_cell hbl hbB hk3;have HST := zqh hst;have HNO := zqh hno;clear hrd hst hno hx;by_cases h40 : x.ins.length ≤ 40
   ·go_wp2
    go_roundw
    case rel =>
     refine ⟨k + 1, by omega, by go_num, ?_, hbx.alloc _, hbl.alloc hbl.size _⟩;have h := HST.out;rw [HS.out, decide_eq_true h40] at h;exact h
    case measure => simp [intOf]; omega
   ·have h := HNO.out h40;have h2 := HF.out;rw [h, Bool.false_and] at h2;have HF2 := zqh h2;clear h h2
    go_wp2
    go_ret
    exact ⟨by rw [HF2.out]; try rfl, hbl.alloc hbl.size _⟩
  ·obtain rfl : k = l.length := by omega
   have h := HS.out;rw [List.take_length] at h;have h2 := HF.out;rw [h, Bool.true_and] at h2;have HF2 := zqh h2;obtain ⟨c1, c2⟩ := ntCells hbx;clear h h2;by_cases hle : l.length ≤ m
   ·go_wp2
    go_ret
    exact ⟨by rw [HF2.out, decide_eq_true hle]; try rfl, hbl⟩
   ·go_wp2
    go_ret
    exact ⟨by rw [HF2.out, decide_eq_false hle]; try rfl, hbl⟩
end Go.Proofs.YtmhllppjcilllaaGreatDoor
end
section
open Go Go.RowKit
end
