/- The walks of the laws CountLits and CountCards. -/
import Derived.Test.YtcgejdlfiemjaaaDoorSZ
import Derived.Test.YtcgejdlfiemjaaaDoorK1
import Derived.Test.YtcgejdlfiemjaaaDoorL1
import Derived.Test.YtcgejdlfiemjaaaDoorE3
set_option linter.unusedSimpArgs false
set_option linter.unusedVariables false
open Go Go.RowKit Cs
namespace Cs
/-- What ByLit and ByCard tell. -/
def loS (N : Nt) : List Nat := if cchk N = 0 then lowL N N.n.toNat else []
def hiS (N : Nt) : List Nat := if cchk N = 0 then highL N N.n.toNat else []
def caS (N : Nt) : List Nat := if cchk N = 0 then cardL N N.n.toNat else []
theorem low_le {N : Nt} (hk : cchk N = 0) (nt : Int) : (RN nt).sum N < big * 2 ^ 200 := by
  obtain ⟨h1, h2, h3⟩ := cchk_zero hk
  exact RN_wide nt _ (RN_all h3 nt _) _ (vl_length _)
theorem n8_sum {N : Nt} (hk : cchk N = 0) (nt : Int) : n8 ((RN nt).sum N) ≤ 1000000 := Nat.le_trans (n8_big _ (low_le hk nt)) (by decide)
theorem map_bd (f : Nat → Nat) (n : Nat) (h : ∀ i, n8 (f i) ≤ 1000000) (i : Nat) : n8 ((0 :: (List.range n).map f).getD i 0) ≤ 1000000 := by
  match i with
  | 0 => show n8 0 ≤ _; rw [n8_zero]; omega
  | i + 1 =>
    show n8 (((List.range n).map f).getD i 0) ≤ _
    rw [getD_map_range]
    split
    · exact h i
    · rw [n8_zero]; omega
theorem loS_bd (N : Nt) : (loS N).length ≤ 1000000 ∧ ∀ i, n8 ((loS N).getD i 0) ≤ 1000000 := by
  unfold loS
  split
  · rename_i hk
    have hb := vld_bounds (cchk_zero hk).1
    exact ⟨by rw [lowL_len]; omega, fun i => map_bd _ _ (fun i => n8_sum hk _) i⟩
  · exact ⟨by simp, fun i => by rw [show ([] : List Nat).getD i 0 = 0 by simp [List.getD], n8_zero]; omega⟩
theorem hiS_bd (N : Nt) : (hiS N).length ≤ 1000000 ∧ ∀ i, n8 ((hiS N).getD i 0) ≤ 1000000 := by
  unfold hiS
  split
  · rename_i hk
    have hb := vld_bounds (cchk_zero hk).1
    exact ⟨by rw [highL_len]; omega, fun i => map_bd _ _ (fun i => n8_sum hk _) i⟩
  · exact ⟨by simp, fun i => by rw [show ([] : List Nat).getD i 0 = 0 by simp [List.getD], n8_zero]; omega⟩
theorem caS_bd (N : Nt) : (caS N).length ≤ 1000000 ∧ ∀ i, n8 ((caS N).getD i 0) ≤ 1000000 := by
  unfold caS
  split
  · rename_i hk
    obtain ⟨hv, hd, _⟩ := cchk_zero hk
    have hb := vld_bounds hv
    refine ⟨by unfold cardL; simp; omega, fun i => ?_⟩
    rw [cardL_get]
    split
    · rename_i hi
      have h1 := cards_all hv hd N.n.toNat (by omega)
      have h2 : (RC.sum N).getD i 0 ≤ (RN 0).sum N := by
        rw [← h1]
        have : ∀ m j, j < m → (RC.sum N).getD j 0 ≤ sN (fun k => (RC.sum N).getD k 0) m := by
          intro m
          induction m with
          | zero => intro j hj; omega
          | succ m ih =>
            intro j hj
            rw [sN_succ]
            rcases Nat.lt_or_ge j m with h | h
            · have := ih j h; omega
            · rw [show j = m by omega]; omega
        exact this _ i hi
      exact Nat.le_trans (n8_mono h2) (n8_sum hk 0)
    · rw [n8_zero]; omega
  · exact ⟨by simp, fun i => by rw [show ([] : List Nat).getD i 0 = 0 by simp [List.getD], n8_zero]; omega⟩
end Cs
namespace Go.Proofs.YtcgejdlfiemjaaaDoor
/-- Two slices and an error. -/
def TwoR (w : World) (C : Int) (F : List Nat → Nat → Value) (L H : List Nat) (e : Ending) (w' : World) : Prop := ∃ Al cl Ah ch, e = .returned (.tuple #[.slice Al L.length cl, .slice Ah H.length ch, .int .i64 C]) ∧
  Rd w' w'.heap.size Al L.length (F L) ∧ Rd w' w'.heap.size Ah H.length (F H) ∧ Below w.heap.size w w'
/-- A slice and an error. -/
def OneR (w : World) (C : Int) (F : List Nat → Nat → Value) (L : List Nat) (e : Ending) (w' : World) : Prop := ∃ Al cl, e = .returned (.tuple #[.slice Al L.length cl, .int .i64 C]) ∧ Rd w' w'.heap.size Al L.length (F L) ∧ Below w.heap.size w w'
theorem byLit_all (w : World) (N : Nt) (A : Option Addr) (c : Nat) (hlen : N.l.length ≤ 140737488355328) (hN : NtAt w w.heap.size A N.l) (hT : Tab w) : Calls Tryd.prog 15 #[ntV N A c] w (TwoR w (cchk N) natsF (loS N) (hiS N)) := by
  by_cases hk : cchk N = 0
  · have hb := vld_bounds (cchk_zero hk).1
    refine (byLit_any w N A c N.n.toNat (by omega) hN hT hk).mono ?_
    rintro e w' ⟨gl, gh, rfl, _, _, h1, h2, h3⟩
    unfold loS hiS
    rw [if_pos hk, if_pos hk, hk]
    refine ⟨_, N.n.toNat + 1, _, N.n.toNat + 1, by rw [lowL_len, highL_len], ?_, ?_, h3⟩
    · rw [lowL_len]; exact Rd.of_row h1 (Nat.le_refl _) h1.lt
    · rw [highL_len]; exact Rd.of_row h2 (Nat.le_refl _) h2.lt
  · refine (byLit_no w N A c hlen hN hT hk).mono ?_
    rintro e w' ⟨rfl, h⟩
    unfold loS hiS
    rw [if_neg hk, if_neg hk]
    exact ⟨none, 0, none, 0, rfl, Rd.zero _ _ _ _, Rd.zero _ _ _ _, h⟩
theorem byCard_all (w : World) (N : Nt) (A : Option Addr) (c : Nat) (hlen : N.l.length ≤ 140737488355328) (hN : NtAt w w.heap.size A N.l) (hT : Tab w) : Calls Tryd.prog 18 #[ntV N A c] w (OneR w (cchk N) natsF (caS N)) := by
  by_cases hk : cchk N = 0
  · have hb := vld_bounds (cchk_zero hk).1
    have hl : (cardL N N.n.toNat).length = N.n.toNat + 1 := by unfold cardL; simp
    refine (byCard_any w N A c N.n.toNat (by omega) hN hT hk).mono ?_
    rintro e w' ⟨gl, rfl, _, h1, h3⟩
    unfold caS
    rw [if_pos hk, hk]
    refine ⟨_, N.n.toNat + 1, by rw [hl], ?_, h3⟩
    rw [hl]; exact Rd.of_row h1 (Nat.le_refl _) h1.lt
  · refine (byCard_no w N A c hlen hN hT hk).mono ?_
    rintro e w' ⟨rfl, h⟩
    unfold caS
    rw [if_neg hk]
    exact ⟨none, 0, rfl, Rd.zero _ _ _ _, h⟩
set_option maxRecDepth 100000 in
theorem rbyLit_no (w : World) (N : Nt) (A : Option Addr) (c : Nat) (hlen : N.l.length ≤ 140737488355328) (hN : NtAt w w.heap.size A N.l) (hk : cchk N ≠ 0) :
    Calls Tryd.prog 16 #[ntV N A c] w fun e w' => e = .returned (.tuple #[.slice none 0 0, .slice none 0 0, .int .i64 (cchk N)]) ∧ Below w.heap.size w w' := by
  have hcc := fun W h => rcheck_any W N A c hlen h
  have HCC := Lib.hid hcc
  have hbl : Below w.heap.size w (w.alloc (.cells #[.int .i64 N.n, .slice A N.l.length c] 24)) := (Below.refl _ _).alloc (Nat.le_refl _) _
  obtain ⟨n, l⟩ := N
  obtain ⟨E, hE⟩ : ∃ E, cchk ⟨n, l⟩ = E := ⟨_, rfl⟩
  have hb : (E == 0) = false := beq_eq_false_iff_ne.2 (hE ▸ hk)
  rw [hE] at HCC ⊢
  clear hE hk hcc
  go_enter Tryd.func16, Tryd.ntmps16
  go_wp2_with fail
  refine (HCC.out _ ((hN.below hbl).more hbl.size)).mono ?_
  rintro e w5 ⟨rfl, hb5⟩
  replace hbl := Cs.Below.trans' hbl hb5 hbl.size
  go_wp2
  go_ret3
  exact ⟨rfl, hbl⟩
set_option maxRecDepth 100000 in
theorem rbyCard_no (w : World) (N : Nt) (A : Option Addr) (c : Nat) (hlen : N.l.length ≤ 140737488355328) (hN : NtAt w w.heap.size A N.l) (hk : cchk N ≠ 0) :
    Calls Tryd.prog 19 #[ntV N A c] w fun e w' => e = .returned (.tuple #[.slice none 0 0, .int .i64 (cchk N)]) ∧ Below w.heap.size w w' := by
  have hcc := fun W h => rcheck_any W N A c hlen h
  have HCC := Lib.hid hcc
  have hbl : Below w.heap.size w (w.alloc (.cells #[.int .i64 N.n, .slice A N.l.length c] 24)) := (Below.refl _ _).alloc (Nat.le_refl _) _
  obtain ⟨n, l⟩ := N
  obtain ⟨E, hE⟩ : ∃ E, cchk ⟨n, l⟩ = E := ⟨_, rfl⟩
  have hb : (E == 0) = false := beq_eq_false_iff_ne.2 (hE ▸ hk)
  rw [hE] at HCC ⊢
  clear hE hk hcc
  go_enter Tryd.func19, Tryd.ntmps19
  go_wp2_with fail
  refine (HCC.out _ ((hN.below hbl).more hbl.size)).mono ?_
  rintro e w5 ⟨rfl, hb5⟩
  replace hbl := Cs.Below.trans' hbl hb5 hbl.size
  go_wp2
  go_ret2
  exact ⟨rfl, hbl⟩
theorem rbyLit_all (w : World) (N : Nt) (A : Option Addr) (c : Nat) (hlen : N.l.length ≤ 140737488355328) (hN : NtAt w w.heap.size A N.l) : Calls Tryd.prog 16 #[ntV N A c] w (TwoR w (cchk N) decF (loS N) (hiS N)) := by
  by_cases hk : cchk N = 0
  · have hb := vld_bounds (cchk_zero hk).1
    refine (rbyLit_any w N A c N.n.toNat (by omega) hN hk).mono ?_
    rintro e w' ⟨Al, cl, Ah, ch, rfl, h1, h2, h3⟩
    unfold loS hiS
    rw [if_pos hk, if_pos hk, hk]
    exact ⟨Al, cl, Ah, ch, by rw [lowL_len, highL_len], by rw [lowL_len]; exact h1, by rw [highL_len]; exact h2, h3⟩
  · refine (rbyLit_no w N A c hlen hN hk).mono ?_
    rintro e w' ⟨rfl, h⟩
    unfold loS hiS
    rw [if_neg hk, if_neg hk]
    exact ⟨none, 0, none, 0, rfl, Rd.zero _ _ _ _, Rd.zero _ _ _ _, h⟩
theorem rbyCard_all (w : World) (N : Nt) (A : Option Addr) (c : Nat) (hlen : N.l.length ≤ 140737488355328) (hN : NtAt w w.heap.size A N.l) : Calls Tryd.prog 19 #[ntV N A c] w (OneR w (cchk N) decF (caS N)) := by
  by_cases hk : cchk N = 0
  · have hb := vld_bounds (cchk_zero hk).1
    have hl : (cardL N N.n.toNat).length = N.n.toNat + 1 := by unfold cardL; simp
    refine (rbyCard_any w N A c N.n.toNat (by omega) hN hk).mono ?_
    rintro e w' ⟨Al, cl, rfl, h1, h3⟩
    unfold caS
    rw [if_pos hk, hk]
    exact ⟨Al, cl, by rw [hl], by rw [hl]; exact h1, h3⟩
  · refine (rbyCard_no w N A c hlen hN hk).mono ?_
    rintro e w' ⟨rfl, h⟩
    unfold caS
    rw [if_neg hk]
    exact ⟨none, 0, rfl, Rd.zero _ _ _ _, h⟩
/-- Whether the law looks at a net of so many variables. -/
def mid (n : Int) : Prop := 20 < n ∧ n ≤ 128
set_option maxRecDepth 100000 in
set_option maxHeartbeats 4000000 in
theorem countLits_any (w : World) (N : Nt) (A : Option Addr) (c : Nat) (hlen : N.l.length ≤ 140737488355328) (hN : NtAt w w.heap.size A N.l) (hT : Tab w) :
    Calls Tryd.prog 4 #[ntV N A c] w fun e w' => e = .returned (.bool true) ∧ Below w.heap.size w w' := by
  have hnet := ntNew w N A c 24 _ rfl
  have hbl : Below w.heap.size w (w.alloc (.cells #[.int .i64 N.n, .slice A N.l.length c] 24)) := (Below.refl _ _).alloc (Nat.le_refl _) _
  have hfw := fun W h => few_any W N A c hlen h
  have hc1 := fun W h hT => byLit_all W N A c hlen h hT
  have hc2 := fun W h => rbyLit_all W N A c hlen h
  have hlb := loS_bd N
  have hhb := hiS_bd N
  obtain ⟨L, hL⟩ : ∃ L, loS N = L := ⟨_, rfl⟩
  obtain ⟨H, hH⟩ : ∃ L, hiS N = L := ⟨_, rfl⟩
  obtain ⟨C, hC⟩ : ∃ V, cchk N = V := ⟨_, rfl⟩
  simp only [hL, hH, hC] at hc1 hc2 hlb hhb
  have hsl := fun W A B c cb => same_any W A B c cb L L hlb.1 rfl (fun _ => rfl) hlb.2
  have hsh := fun W A B c cb => same_any W A B c cb H H hhb.1 rfl (fun _ => rfl) hhb.2
  have HFW := Lib.hid hfw
  have HWK := Lib.hid works_any
  have HC1 := Lib.hid hc1
  have HC2 := Lib.hid hc2
  have HSL := Lib.hid hsl
  have HSH := Lib.hid hsh
  clear hfw hc1 hc2 hsl hsh hlb hhb hL hH hC
  obtain ⟨F, hF⟩ : ∃ F, fewB N = F := ⟨_, rfl⟩
  simp only [hF] at HFW
  clear hF
  have hcase : (F = false ∨ (F = true ∧ mid N.n)) ∨ (F = true ∧ (N.n ≤ 20 ∨ (20 < N.n ∧ ¬ N.n ≤ 128))) := by
    cases F
    · exact .inl (.inl rfl)
    · by_cases h : mid N.n
      · exact .inl (.inr ⟨rfl, h⟩)
      · refine .inr ⟨rfl, ?_⟩
        unfold mid at h
        omega
  rcases hcase with h | h
  · obtain ⟨n, l⟩ := N
    rcases h with rfl | ⟨rfl, h1, h2⟩
    all_goals
      go_enter Tryd.func4, Tryd.ntmps4
      go_wp2_with fail
      refine (HFW.out _ ((hN.below hbl).more hbl.size)).mono ?_
      rintro e w2 ⟨rfl, hb2⟩
      replace hnet := rowBelow hnet hb2
      have hbl2 := Cs.Below.trans' hbl hb2 hbl.size
      obtain ⟨hn1, hn2'⟩ := ntCells hnet
      go_wp2_with fail
      refine (HWK.out _ (hT.below hbl2)).mono ?_
      rintro e w3 ⟨rfl, hb3⟩
      go_wp2
      go_ret
      exact ⟨rfl, Cs.Below.trans' hbl2 hb3 hbl2.size⟩
  · obtain ⟨n, l⟩ := N
    obtain ⟨rfl, h⟩ := h
    simp only at h
    rcases h with h1 | ⟨h1, h2⟩
    all_goals
      have h20 : (20 < n) ∨ ¬ (20 < n) := by omega
      try have h1' : ¬ (20 < n) := by omega
      go_enter Tryd.func4, Tryd.ntmps4
      go_wp2_with fail
      refine (HFW.out _ ((hN.below hbl).more hbl.size)).mono ?_
      rintro e w2 ⟨rfl, hb2⟩
      replace hnet := rowBelow hnet hb2
      replace hbl := Cs.Below.trans' hbl hb2 hbl.size
      obtain ⟨hn1, hn2'⟩ := ntCells hnet
      go_wp2_with fail
      refine (HC1.out _ ((hN.below hbl).more hbl.size) (hT.below hbl)).mono ?_
      rintro e w3 ⟨Al, cl, Ah, ch, rfl, r1, r2, hb3⟩
      replace hnet := rowBelow hnet hb3
      replace hbl := Cs.Below.trans' hbl hb3 hbl.size
      obtain ⟨hn1, hn2'⟩ := ntCells hnet
      have R1 := Lib.hid r1
      have R2 := Lib.hid r2
      clear hb2 hb3 r1 r2
      go_wp2_with fail
      refine (HC2.out _ ((hN.below hbl).more hbl.size)).mono ?_
      rintro e w4 ⟨Bl, dl, Bh, dh, rfl, s1, s2, hb4⟩
      replace hbl := Cs.Below.trans' hbl hb4 hbl.size
      have R3 := Lib.hid ((R1.out.below hb4).more hb4.size)
      have R4 := Lib.hid ((R2.out.below hb4).more hb4.size)
      have S1 := Lib.hid s1
      have S2 := Lib.hid s2
      clear hb4 hnet hn1 hn2' s1 s2
      go_wp2_with fail
      refine (HSL.out _ Al Bl cl dl R3.out S1.out).mono ?_
      rintro e w5 ⟨rfl, hb5⟩
      replace hbl := Cs.Below.trans' hbl hb5 hbl.size
      have R6 := Lib.hid ((R4.out.below hb5).more hb5.size)
      have S6 := Lib.hid ((S2.out.below hb5).more hb5.size)
      clear hb5
      go_wp2_with fail
      refine (HSH.out _ Ah Bh ch dh R6.out S6.out).mono ?_
      rintro e w6 ⟨rfl, hb6⟩
      replace hbl := Cs.Below.trans' hbl hb6 hbl.size
      clear hb6
      go_wp2_with fail
      refine (HWK.out _ (hT.below hbl)).mono ?_
      rintro e w7 ⟨rfl, hb7⟩
      go_wp2
      go_ret
      exact ⟨rfl, Cs.Below.trans' hbl hb7 hbl.size⟩
set_option maxRecDepth 100000 in
set_option maxHeartbeats 4000000 in
theorem countCards_any (w : World) (N : Nt) (A : Option Addr) (c : Nat) (hlen : N.l.length ≤ 140737488355328) (hN : NtAt w w.heap.size A N.l) (hT : Tab w) :
    Calls Tryd.prog 5 #[ntV N A c] w fun e w' => e = .returned (.bool true) ∧ Below w.heap.size w w' := by
  have hnet := ntNew w N A c 24 _ rfl
  have hbl : Below w.heap.size w (w.alloc (.cells #[.int .i64 N.n, .slice A N.l.length c] 24)) := (Below.refl _ _).alloc (Nat.le_refl _) _
  have hfw := fun W h => few_any W N A c hlen h
  have hc1 := fun W h hT => byCard_all W N A c hlen h hT
  have hc2 := fun W h => rbyCard_all W N A c hlen h
  have hlb := caS_bd N
  obtain ⟨L, hL⟩ : ∃ L, caS N = L := ⟨_, rfl⟩
  obtain ⟨C, hC⟩ : ∃ V, cchk N = V := ⟨_, rfl⟩
  simp only [hL, hC] at hc1 hc2 hlb
  have hsl := fun W A B c cb => same_any W A B c cb L L hlb.1 rfl (fun _ => rfl) hlb.2
  have HFW := Lib.hid hfw
  have HWK := Lib.hid works_any
  have HC1 := Lib.hid hc1
  have HC2 := Lib.hid hc2
  have HSL := Lib.hid hsl
  clear hfw hc1 hc2 hsl hlb hL hC
  obtain ⟨F, hF⟩ : ∃ F, fewB N = F := ⟨_, rfl⟩
  simp only [hF] at HFW
  clear hF
  have hcase : (F = false ∨ (F = true ∧ mid N.n)) ∨ (F = true ∧ (N.n ≤ 20 ∨ (20 < N.n ∧ ¬ N.n ≤ 128))) := by
    cases F
    · exact .inl (.inl rfl)
    · by_cases h : mid N.n
      · exact .inl (.inr ⟨rfl, h⟩)
      · refine .inr ⟨rfl, ?_⟩
        unfold mid at h
        omega
  rcases hcase with h | h
  · obtain ⟨n, l⟩ := N
    rcases h with rfl | ⟨rfl, h1, h2⟩
    all_goals
      go_enter Tryd.func5, Tryd.ntmps5
      go_wp2_with fail
      refine (HFW.out _ ((hN.below hbl).more hbl.size)).mono ?_
      rintro e w2 ⟨rfl, hb2⟩
      replace hnet := rowBelow hnet hb2
      have hbl2 := Cs.Below.trans' hbl hb2 hbl.size
      obtain ⟨hn1, hn2'⟩ := ntCells hnet
      go_wp2_with fail
      refine (HWK.out _ (hT.below hbl2)).mono ?_
      rintro e w3 ⟨rfl, hb3⟩
      go_wp2
      go_ret
      exact ⟨rfl, Cs.Below.trans' hbl2 hb3 hbl2.size⟩
  · obtain ⟨n, l⟩ := N
    obtain ⟨rfl, h⟩ := h
    simp only at h
    rcases h with h1 | ⟨h1, h2⟩
    all_goals
      try have h1' : ¬ (20 < n) := by omega
      go_enter Tryd.func5, Tryd.ntmps5
      go_wp2_with fail
      refine (HFW.out _ ((hN.below hbl).more hbl.size)).mono ?_
      rintro e w2 ⟨rfl, hb2⟩
      replace hnet := rowBelow hnet hb2
      replace hbl := Cs.Below.trans' hbl hb2 hbl.size
      obtain ⟨hn1, hn2'⟩ := ntCells hnet
      go_wp2_with fail
      refine (HC1.out _ ((hN.below hbl).more hbl.size) (hT.below hbl)).mono ?_
      rintro e w3 ⟨Al, cl, rfl, r1, hb3⟩
      replace hnet := rowBelow hnet hb3
      replace hbl := Cs.Below.trans' hbl hb3 hbl.size
      obtain ⟨hn1, hn2'⟩ := ntCells hnet
      have R1 := Lib.hid r1
      clear hb2 hb3 r1
      go_wp2_with fail
      refine (HC2.out _ ((hN.below hbl).more hbl.size)).mono ?_
      rintro e w4 ⟨Bl, dl, rfl, s1, hb4⟩
      replace hbl := Cs.Below.trans' hbl hb4 hbl.size
      have R3 := Lib.hid ((R1.out.below hb4).more hb4.size)
      have S1 := Lib.hid s1
      clear hb4 hnet hn1 hn2' s1
      go_wp2_with fail
      refine (HSL.out _ Al Bl cl dl R3.out S1.out).mono ?_
      rintro e w5 ⟨rfl, hb5⟩
      replace hbl := Cs.Below.trans' hbl hb5 hbl.size
      clear hb5
      go_wp2_with fail
      refine (HWK.out _ (hT.below hbl)).mono ?_
      rintro e w7 ⟨rfl, hb7⟩
      go_wp2
      go_ret
      exact ⟨rfl, Cs.Below.trans' hbl hb7 hbl.size⟩
end Go.Proofs.YtcgejdlfiemjaaaDoor
