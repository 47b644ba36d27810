/- The walk of the reference's Check. -/
import Derived.Test.YtcgejdlfiemjaaaDoorRW
import Derived.Test.YtcgejdlfiemjaaaDoorRT
import Derived.Test.YtcgejdlfiemjaaaDoorS2
set_option linter.unusedSimpArgs false
set_option linter.unusedVariables false
open Go Go.RowKit Cs
namespace Go.Proofs.YtcgejdlfiemjaaaDoor
set_option maxRecDepth 100000 in
set_option maxHeartbeats 2000000 in
theorem rcheck_any (w : World) (N : Nt) (A : Option Addr) (c : Nat) (hlen : N.l.length ≤ 140737488355328) (hN : NtAt w w.heap.size A N.l) :
    Calls Tryd.prog 25 #[ntV N A c] w fun e w' => e = .returned (.int .i64 (cchk N)) ∧ Below w.heap.size w w' := by
  have h1 := fun W h => rnvalid_any W N A c hlen h
  have hv : vld N = true → (∀ W, NtAt W W.heap.size A N.l → Calls Tryd.prog 50 #[ntV N A c] W fun e w' => e = .returned (.bool (dcmp N)) ∧ Below W.heap.size W w') ∧ (∀ W, NtAt W W.heap.size A N.l → Calls Tryd.prog 51 #[ntV N A c] W fun e w' => e = .returned (.bool (shortB N)) ∧ Below W.heap.size W w') := fun h => ⟨fun W hW => rapart_any W N A c hW h, fun W hW => rShort_any W N A c hW h⟩
  obtain ⟨C, hC⟩ : ∃ C, cchk N = C := ⟨_, rfl⟩
  rw [hC]
  unfold cchk at hC
  obtain ⟨V, hV⟩ : ∃ V, vld N = V := ⟨_, rfl⟩
  obtain ⟨D, hD⟩ : ∃ V, dcmp N = V := ⟨_, rfl⟩
  obtain ⟨S, hS⟩ : ∃ V, shortB N = V := ⟨_, rfl⟩
  rw [hV, hD, hS] at hC
  simp only [hV] at h1
  simp only [hV, hD, hS] at hv
  clear hV hD hS
  obtain ⟨n, l⟩ := N
  simp only at hN hlen
  have hbox := ntNew w ⟨n, l⟩ A c 24 _ rfl
  have hbl : Below w.heap.size w (w.alloc (.cells #[.int .i64 n, .slice A l.length c] 24)) := (Below.refl _ _).alloc (Nat.le_refl _) _
  have H1 := Lib.hid h1
  have HV := Lib.hid hv
  clear h1 hv
  cases V
  · obtain rfl : (1 : Int) = C := hC
    go_enter Tryd.func25, Tryd.ntmps25
    go_wp2_with fail
    refine (H1.out _ ((hN.below hbl).more hbl.size)).mono ?_
    rintro e w5 ⟨rfl, hb5⟩
    have hb := Cs.Below.trans' hbl hb5 hbl.size
    go_wp2
    go_ret
    exact ⟨rfl, hb⟩
  · have hap := (HV.out rfl).1
    have hsh := (HV.out rfl).2
    have HAP := Lib.hid hap
    have HSH := Lib.hid hsh
    clear HV hap hsh
    cases D
    · obtain rfl : (210 : Int) = C := hC
      go_enter Tryd.func25, Tryd.ntmps25
      go_wp2_with fail
      refine (H1.out _ ((hN.below hbl).more hbl.size)).mono ?_
      rintro e w5 ⟨rfl, hb5⟩
      have hb := Cs.Below.trans' hbl hb5 hbl.size
      obtain ⟨p1, p2⟩ := ntCells (rowBelow hbox hb5)
      go_wp2_with fail
      refine (HAP.out _ ((hN.below hb).more hb.size)).mono ?_
      rintro e w6 ⟨rfl, hb6⟩
      have hb' := Cs.Below.trans' hb hb6 hb.size
      go_wp2
      go_ret
      exact ⟨rfl, hb'⟩
    · have hC2 : (if S = true then (0 : Int) else 2) = C := hC
      clear hC
      go_enter Tryd.func25, Tryd.ntmps25
      go_wp2_with fail
      refine (H1.out _ ((hN.below hbl).more hbl.size)).mono ?_
      rintro e w5 ⟨rfl, hb5⟩
      have hb := Cs.Below.trans' hbl hb5 hbl.size
      have hbox5 := rowBelow hbox hb5
      obtain ⟨p1, p2⟩ := ntCells hbox5
      go_wp2_with fail
      refine (HAP.out _ ((hN.below hb).more hb.size)).mono ?_
      rintro e w6 ⟨rfl, hb6⟩
      have hb' := Cs.Below.trans' hb hb6 hb.size
      obtain ⟨p3, p4⟩ := ntCells (rowBelow hbox5 hb6)
      go_wp2_with fail
      refine (HSH.out _ ((hN.below hb').more hb'.size)).mono ?_
      rintro e w7 ⟨rfl, hb7⟩
      have hb'' := Cs.Below.trans' hb' hb7 hb'.size
      cases S
      · obtain rfl : (2 : Int) = C := hC2
        go_wp2
        go_ret
        exact ⟨rfl, hb''⟩
      · obtain rfl : (0 : Int) = C := hC2
        go_wp2
        go_ret
        exact ⟨rfl, hb''⟩
end Go.Proofs.YtcgejdlfiemjaaaDoor
