import Derived.Test.YtmhllppjcilllaaGreatDoorN1
import Derived.Test.YtmhllppjcilllaaGreatDoorM1
import Derived.Test.YtmhllppjcilllaaGreatDoorB1
set_option linter.unusedSimpArgs false
set_option linter.unusedVariables false
set_option maxRecDepth 100000
set_option maxHeartbeats 400000
section
open Go Go.RowKit Cs
namespace Go.Proofs.YtmhllppjcilllaaGreatDoor
theorem shl_or (a r : Nat) (ha : a < 4294967296) (hr : r < 4294967296) : bits BinOp.or IntKind.u64 ((a : Int) * 4294967296) (r : Int) = ((a * 4294967296 + r : Nat) : Int) := by
 have e : (a : Int) * 4294967296 = ((a * 4294967296 : Nat) : Int) := by simp
 rw [e, u64_or_nat _ _ (by omega) (by omega), nat_join 32 _ _ (by omega) (by omega)]
theorem shrink_any (w : World) (g m cap N R q : Nat) (hm : m ≤ 10000000) (hmN : m ≤ N) (hR : nw R ≤ m) (hq : 0 < q) (hq2 : q < 4294967296) (hrow0 : w.rowIs g 124 N (fun j => .int .u32 (wd R j))) :
  Calls Tryz.prog 89 #[.slice (some ⟨g, 0, none⟩) m cap, .int .u32 q] w fun e w' => e = .returned (.int .u32 ((R % q : Nat) : Int)) ∧
   w'.rowIs g 124 N (fun j => .int .u32 (wd (R / q) j)) ∧ w.grownBy w' (some g) ∧ w'.heap.size = w.heap.size := by
 go_enter Tryz.func89, Tryz.ntmps89
 go_wp2
 go_loopw [5, 6] (fun r i wr => ∃ k : Nat, k ≤ m ∧ i = .int .i64 ((k : Int) - 1) ∧ r = .int .u64 (rst R q k) ∧ wr.rowIs g 124 N (fun j => .int .u32 (if j < k then wd R j else wd (R / q) j)) ∧ w.grownBy wr (some g) ∧ wr.heap.size = w.heap.size)
  (fun _ i _ => (intOf i + 1).toNat)
 case atStart =>
  refine ⟨m, by omega, rfl, by rw [rst_top R q m hR]; rfl, hrow0.congr fun j _ => ?_, World.grownBy.refl w _, rfl⟩;by_cases h : j < m
  ·rw [if_pos h]
  ·rw [if_neg h, wd_ge R j (by omega), wd_ge (R / q) j (by rw [nw_le]; exact Nat.lt_of_le_of_lt (Nat.div_le_self _ _) ((nw_le _ _).1 (by omega)))]
 case round =>
  clear hrow0;obtain ⟨k, hk, rfl, rfl, hrow, hgr, hsz⟩ := hrel
  have Hsz := zqh hsz; clear hsz
  rcases Nat.eq_zero_or_pos k with h0 | h0
  ·subst h0;have hr0 := rst_zero R q;rw [hr0];clear hr0;have hlt : R % q < 4294967296 := Nat.lt_of_lt_of_le (Nat.mod_lt _ hq) (by omega)
   have hrow' := hrow.congr (g := fun j => .int .u32 (wd (R / q) j)) fun j _ => by rw [if_neg (by omega)]
   have hmod : ((R % q : Nat) : Int) % 4294967296 = ((R % q : Nat) : Int) := Int.emod_eq_of_lt (by omega) (by omega)
   have Hmod := zqh hmod; clear hmod
   clear hrow
   go_wp2
   go_ret
   exact ⟨by simp, hrow', hgr, Hsz.out⟩
  ·have hc := hrow.cell (i := k - 1) (by omega);rw [if_pos (by omega)] at hc;have hf := hrow.frozen (k - 1);have hlt := rst_lt R q k hq;have hw := wd_lt R (k - 1);have hor := shl_or (rst R q k) (wd R (k - 1)) (by omega) hw
   have i0 : (0 : Int) ≤ (k : Int) - 1 := by omega
   have i1 : (k : Int) - 1 < (m : Int) := by omega
   go_wp2
   have e1 : ((rst R q k : Int) * 4294967296 + (wd R (k - 1) : Int)) % (q : Int) = ((rst R q (k - 1) : Nat) : Int) := by
    rw [← rst_step R q (k - 1), Nat.sub_add_cancel h0]; simp
   have e2 : ((rst R q k : Int) * 4294967296 + (wd R (k - 1) : Int)) / (q : Int) % 4294967296 = ((wd (R / q) (k - 1) : Nat) : Int) := by
    have h1 := rst_quot R q (k - 1) hq;rw [Nat.sub_add_cancel h0] at h1;have h2 := wd_lt (R / q) (k - 1)
    have h3 : ((rst R q k : Int) * 4294967296 + (wd R (k - 1) : Int)) / (q : Int) = (((rst R q k * 4294967296 + wd R (k - 1)) / q : Nat) : Int) := by simp
    rw [h3, h1]; omega
   rw [e1, e2]
   go_roundw
   case rel =>
    refine ⟨k - 1, by omega, by go_num, rfl, (hrow.set _ _).congr fun j hj => ?_, only_setCell hgr (.inl rfl) _, (size_setCell _ _ _).trans Hsz.out⟩;split
    ·subst j; rw [if_neg (Nat.lt_irrefl _)]
    ·by_cases h : j < k
     ·rw [if_pos h, if_pos (by omega)]
     ·rw [if_neg h, if_neg (by omega)]
   case measure => simp [intOf]; omega
end Go.Proofs.YtmhllppjcilllaaGreatDoor
end
