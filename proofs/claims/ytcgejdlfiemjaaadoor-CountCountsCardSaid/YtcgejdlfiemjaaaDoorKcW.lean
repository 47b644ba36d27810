/- The walk of the law CountCounts. -/
import Derived.Test.YtcgejdlfiemjaaaDoorSX
import Derived.Test.YtcgejdlfiemjaaaDoorK1
import Derived.Test.YtcgejdlfiemjaaaDoorL1
set_option linter.unusedSimpArgs false
set_option linter.unusedVariables false
open Go Go.RowKit Cs
namespace Go.Proofs.YtcgejdlfiemjaaaDoor
set_option maxRecDepth 100000 in
set_option maxHeartbeats 2000000 in
theorem countCounts_any (w : World) (N : Nt) (A : Option Addr) (c : Nat) (hlen : N.l.length ≤ 140737488355328) (hN : NtAt w w.heap.size A N.l) (hT : Tab w) :
    Calls Tryd.prog 3 #[ntV N A c] w fun e w' => e = .returned (.bool true) ∧ Below w.heap.size w w' := by
  have hnet := ntNew w N A c 24 _ rfl
  have hbl : Below w.heap.size w (w.alloc (.cells #[.int .i64 N.n, .slice A N.l.length c] 24)) := (Below.refl _ _).alloc (Nat.le_refl _) _
  have hfw := fun W h => few_any W N A c hlen h
  have hc1 := fun W h hT => count_any W N A c hlen h hT
  have hc2 := fun W h => rcount_any W N A c hlen h
  have hq1 := cnt_n8 N
  have HFW := Lib.hid hfw
  have HWK := Lib.hid works_any
  clear hfw
  cases hf : fewB N
  · rw [hf] at HFW
    clear hf hc1 hc2 hq1
    obtain ⟨n, l⟩ := N
    go_enter Tryd.func3, Tryd.ntmps3
    go_wp2_with fail
    refine (HFW.out _ ((hN.below hbl).more hbl.size)).mono ?_
    rintro e w2 ⟨rfl, hb2⟩
    have hbl2 := Cs.Below.trans' hbl hb2 hbl.size
    go_wp2_with fail
    refine (HWK.out _ (hT.below hbl2)).mono ?_
    rintro e w3 ⟨rfl, hb3⟩
    go_wp2
    go_ret
    exact ⟨rfl, Cs.Below.trans' hbl2 hb3 hbl2.size⟩
  · rw [hf] at HFW
    clear hf
    obtain ⟨V, hV⟩ : ∃ V, cntN N = V := ⟨_, rfl⟩
    obtain ⟨C, hC⟩ : ∃ V, cchk N = V := ⟨_, rfl⟩
    rw [hV] at hq1
    simp only [hV, hC] at hc1 hc2
    obtain ⟨n, l⟩ := N
    have htx := fun W => text_any W V (by omega)
    have HC1 := Lib.hid hc1
    have HC2 := Lib.hid hc2
    have HTX := Lib.hid htx
    clear hc1 hc2 hV hC htx hq1
    go_enter Tryd.func3, Tryd.ntmps3
    go_wp2_with fail
    refine (HFW.out _ ((hN.below hbl).more hbl.size)).mono ?_
    rintro e w2 ⟨rfl, hb2⟩
    replace hnet := rowBelow hnet hb2
    replace hbl := Cs.Below.trans' hbl hb2 hbl.size
    obtain ⟨hn1, hn2'⟩ := ntCells hnet
    go_wp2_with fail
    refine (HC1.out _ ((hN.below hbl).more hbl.size) (hT.below hbl)).mono ?_
    rintro e w3 ⟨rfl, hb3⟩
    replace hnet := rowBelow hnet hb3
    replace hbl := Cs.Below.trans' hbl hb3 hbl.size
    have hx3 := boxNew w3 (.string (natB V)) 28 _ rfl
    replace hnet := hnet.alloc (.cells #[.string (natB V)] 28)
    replace hbl := hbl.alloc hbl.size (.cells #[.string (natB V)] 28)
    obtain ⟨hn1, hn2'⟩ := ntCells hnet
    clear hb2 hb3
    go_wp2_with fail
    refine (HC2.out _ ((hN.below hbl).more hbl.size)).mono ?_
    rintro e w4 ⟨rfl, hb4⟩
    replace hx3 := rowBelow hx3 hb4
    replace hbl := Cs.Below.trans' hbl hb4 hbl.size
    have hd3 := boxCell hx3
    clear hb4 hnet hn1 hn2'
    go_wp2_with fail
    refine (HTX.out _).mono ?_
    rintro e w5 ⟨rfl, hb5⟩
    replace hbl := Cs.Below.trans' hbl hb5 hbl.size
    go_wp2_with fail
    refine (HWK.out _ (hT.below hbl)).mono ?_
    rintro e w6 ⟨rfl, hb6⟩
    go_wp2
    go_ret
    exact ⟨rfl, Cs.Below.trans' hbl hb6 hbl.size⟩
end Go.Proofs.YtcgejdlfiemjaaaDoor
