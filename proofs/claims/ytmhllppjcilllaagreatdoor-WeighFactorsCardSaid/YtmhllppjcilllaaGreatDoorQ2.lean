import Derived.Test.YtmhllppjcilllaaGreatDoorShort
import Derived.Test.YtmhllppjcilllaaGreatDoorM1
import Derived.Test.YtmhllppjcilllaaGreatDoorS1
import Derived.Test.YtmhllppjcilllaaGreatDoorQ1
set_option linter.unusedSimpArgs false
set_option linter.unusedVariables false
section
set_option maxRecDepth 100000
set_option maxHeartbeats 400000
section
open Go Go.RowKit Cs
namespace Cs
def wt (nt l : Int) : Nat := if l = nt then 0 else 1
def cchk (N : Nt) : Int := if vld N then (if dcmp N then (if shortB N then 0 else 2) else 210) else 1
end Cs
namespace Go.Proofs.YtmhllppjcilllaaGreatDoor
theorem countCheck_any (w : World) (N : Nt) (A : Option Addr) (c : Nat) (hlen : N.l.length ≤ 140737488355328) (hN : NtAt w w.heap.size A N.l) (hT : Tab w) :
  Calls Tryz.prog 79 #[ntV N A c] w fun e w' => e = .returned (.int .i64 (cchk N)) ∧ Below w.heap.size w w' := by
 have hbox := ntNew w N A c 24 _ rfl;have hbl : Below w.heap.size w (w.alloc (.cells #[.int .i64 N.n, .slice A N.l.length c] 24)) := (zqr _ _).alloc (zqn _) _;cases hv : vld N
 ·have hck : cchk N = 1 := by unfold cchk; rw [hv]; rfl
  have hnc : ∀ W, NtAt W W.heap.size A N.l → Calls Tryz.prog 46 #[ntV N A c] W fun e w' => e = .returned (.int .i64 1) ∧ Below W.heap.size W w' := fun W h => by
   have := nodeCheck_any W N A c hlen h
   have h2 : chk N = 1 := by unfold chk; rw [hv]; rfl
   rwa [h2] at this
  rw [hck];have HNC := zqh hnc;clear hck hnc hv;obtain ⟨n, l⟩ := N
  go_enter Tryz.func79, Tryz.ntmps79
  go_wp2_with (
   go_at_call 46
   (with_reducible refine (HNC.out _ ((hN.below hbl).more hbl.size)).mono ?_)
   rintro e w5 ⟨rfl, hb5⟩
   have hbl5 := zqx hbl hb5 hbl.size)
  go_ret
  exact ⟨rfl, hbl5⟩
 ·have hck : cchk N = if dcmp N then (if shortB N then 0 else 2) else 210 := by unfold cchk; rw [hv]; rfl
  have hnc : ∀ W, NtAt W W.heap.size A N.l → Calls Tryz.prog 46 #[ntV N A c] W fun e w' => e = .returned (.int .i64 0) ∧ Below W.heap.size W w' := fun W h => by
   have := nodeCheck_any W N A c hlen h
   have h2 : chk N = 0 := by unfold chk; rw [hv]; rfl
   rwa [h2] at this
  have hdc := fun W h => decomposable_any W N A c h hv;have hsh := fun W h hT => short_any W N A c h hv hT;rw [hck];have HNC := zqh hnc;clear hck hnc hv;cases hd : dcmp N
  ·rw [hd] at hdc;have HDC := zqh hdc;clear hdc hd hsh;obtain ⟨n, l⟩ := N
   go_enter Tryz.func79, Tryz.ntmps79
   go_wp2_with (first
    | (go_at_call 46
       (with_reducible refine (HNC.out _ ((hN.below hbl).more hbl.size)).mono ?_)
       rintro e w5 ⟨rfl, hb5⟩;have hbl5 := zqx hbl hb5 hbl.size;have hbox5 := rowBelow hbox hb5
       obtain ⟨hc1, hc2⟩ := ntCells hbox5)
    | (go_at_call 25
       (with_reducible refine (HDC.out _ ((hN.below hbl5).more hbl5.size)).mono ?_)
       rintro e w6 ⟨rfl, hb6⟩
       have hbl6 := zqx hbl5 hb6 hbl5.size))
   go_ret
   exact ⟨rfl, hbl6⟩
  ·rw [hd] at hdc;have HDC := zqh hdc;clear hdc hd;cases hs : shortB N
   all_goals
    rw [hs] at hsh;have HSH := zqh hsh;clear hsh hs;obtain ⟨n, l⟩ := N
    go_enter Tryz.func79, Tryz.ntmps79
    go_wp2_with (first
     | (go_at_call 46
        (with_reducible refine (HNC.out _ ((hN.below hbl).more hbl.size)).mono ?_)
        rintro e w5 ⟨rfl, hb5⟩;have hbl5 := zqx hbl hb5 hbl.size;have hbox5 := rowBelow hbox hb5
        obtain ⟨hc1, hc2⟩ := ntCells hbox5)
     | (go_at_call 25
        (with_reducible refine (HDC.out _ ((hN.below hbl5).more hbl5.size)).mono ?_)
        rintro e w6 ⟨rfl, hb6⟩;have hbl6 := zqx hbl5 hb6 hbl5.size;have hbox6 := rowBelow hbox5 hb6
        obtain ⟨hc3, hc4⟩ := ntCells hbox6)
     | (go_at_call 122
        (with_reducible refine (HSH.out _ ((hN.below hbl6).more hbl6.size) (hT.below hbl6)).mono ?_)
        rintro e w7 ⟨rfl, hb7⟩
        have hbl7 := zqx hbl6 hb7 hbl6.size))
    go_ret
    exact ⟨rfl, hbl7⟩
end Go.Proofs.YtmhllppjcilllaaGreatDoor
end
section
open Go Go.RowKit Cs
namespace Cs
theorem vl_bounds (s : Nat) : ∀ v ∈ vl s, 1 ≤ v ∧ v ≤ 128 := by
 intro v hv;rw [vl_eq, List.mem_map] at hv;obtain ⟨u, hu, rfl⟩ := hv;unfold vlist at hu;simp at hu;omega
end Cs
end
end
section
section
open Go Go.RowKit Cs
namespace Cs
def b1 (b : Bool) : Nat := if b then 1 else 0
end Cs
end
end
