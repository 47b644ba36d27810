/- The walk of the law CountAdds. -/
import Derived.Test.YtcgejdlfiemjaaaDoorE3
import Derived.Test.YtcgejdlfiemjaaaDoorK1
set_option linter.unusedSimpArgs false
set_option linter.unusedVariables false
open Go Go.RowKit Cs
namespace Cs
theorem lowL_get (N : Nt) (m i : Nat) (h : i < m) : (lowL N m).getD (i + 1) 0 = (RN ((i : Int) + 1)).sum N := by
  unfold lowL; simp [List.getD, h]
theorem highL_get (N : Nt) (m i : Nat) (h : i < m) : (highL N m).getD (i + 1) 0 = (RN (-((i : Int) + 1))).sum N := by
  unfold highL; simp [List.getD, h]
theorem n8_129 {x V : Nat} (hV : n8 V ≤ 1000) (h : x ≤ 256 * V) : n8 x ≤ 1000000 := by
  have h1 := n8_mono h
  have h2 := n8_mul 256 V
  have h3 : n8 256 ≤ 2 := (n8_le 2 256).2 (by decide)
  omega
/-- What the law adds up. -/
structure Sums (N : Nt) (m V : Nat) : Prop where
  low : ∀ i, i < m → (lowL N m).getD (i + 1) 0 + (highL N m).getD (i + 1) 0 = V
  low8 : ∀ i, n8 ((lowL N m).getD i 0) ≤ 1000000
  high8 : ∀ i, n8 ((highL N m).getD i 0) ≤ 1000000
  card8 : ∀ i, n8 ((cardL N m).getD i 0) ≤ 1000000
  c8 : ∀ i, i ≤ m → n8 (i * (cardL N m).getD i 0) ≤ 1000000
  a8 : ∀ k, k ≤ m + 1 → n8 (sN (fun i => (cardL N m).getD i 0) k) ≤ 1000000
  h8 : ∀ k, k ≤ m + 1 → n8 (sN (fun i => (highL N m).getD i 0) k) ≤ 1000000
  s8 : ∀ k, k ≤ m + 1 → n8 (sN (fun i => i * (cardL N m).getD i 0) k) ≤ 1000000
  all : sN (fun i => (cardL N m).getD i 0) (m + 1) = V
  lits : sN (fun i => (highL N m).getD i 0) (m + 1) = sN (fun i => i * (cardL N m).getD i 0) (m + 1)
theorem sN_head (f : Nat → Nat) (h0 : f 0 = 0) : ∀ m, sN f (m + 1) = sN (fun i => f (i + 1)) m
  | 0 => by rw [sN_succ, sN_zero, h0]; rfl
  | m + 1 => by rw [sN_succ, sN_head f h0 m, sN_succ]
theorem sN_at (f : Nat → Nat) : ∀ m i, i < m → f i ≤ sN f m
  | m + 1, i, h => by
    rw [sN_succ]
    rcases Nat.lt_or_ge i m with h1 | h1
    · have := sN_at f m i h1; omega
    · rw [show i = m by omega]; omega
theorem sN_const (f : Nat → Nat) (c : Nat) : ∀ m, (∀ i, i < m → f i ≤ c) → sN f m ≤ m * c
  | 0, _ => by rw [sN_zero]; omega
  | m + 1, h => by
    rw [sN_succ, Nat.succ_mul]
    have := sN_const f c m fun i hi => h i (by omega)
    have := h m (by omega)
    omega
theorem getD_far (L : List Nat) (i : Nat) (h : L.length ≤ i) : L.getD i 0 = 0 := by rw [List.getD_eq_getElem?_getD, List.getElem?_eq_none h]; rfl
theorem sums_of {N : Nt} (m : Nat) (hm : N.n = (m : Int)) (hk : cchk N = 0) : Sums N m (cntN N) := by
  obtain ⟨hv, hd, hs⟩ := cchk_zero hk
  obtain ⟨hn0, hn1, hl0, hl1⟩ := vld_bounds hv
  have hV8 := cnt_n8 N
  have hV : cntN N = (RN 0).sum N := by unfold cntN; rw [if_pos hk]
  obtain ⟨V, hVe⟩ : ∃ V, cntN N = V := ⟨_, rfl⟩
  rw [hVe] at hV hV8 ⊢
  have hlh : ∀ i, i < m → (lowL N m).getD (i + 1) 0 + (highL N m).getD (i + 1) 0 = V := fun i hi => by
    rw [lowL_get N m i hi, highL_get N m i hi, hV]; exact low_high hv hd m hm i hi
  have hlle : ∀ i, (lowL N m).getD i 0 ≤ V := fun i => by
    match i with
    | 0 => exact Nat.zero_le _
    | i + 1 =>
      rcases Nat.lt_or_ge i m with h | h
      · have := hlh i h; omega
      · rw [getD_far _ _ (by rw [lowL_len]; omega)]; exact Nat.zero_le _
  have hhle : ∀ i, (highL N m).getD i 0 ≤ V := fun i => by
    match i with
    | 0 => exact Nat.zero_le _
    | i + 1 =>
      rcases Nat.lt_or_ge i m with h | h
      · have := hlh i h; omega
      · rw [getD_far _ _ (by rw [highL_len]; omega)]; exact Nat.zero_le _
  have hall : sN (fun i => (cardL N m).getD i 0) (m + 1) = V := by
    rw [hV, ← cards_all hv hd m hm]
    exact sN_congr _ _ _ fun i hi => by rw [cardL_get, if_pos hi]
  have hlits : sN (fun i => (highL N m).getD i 0) (m + 1) = sN (fun i => i * (cardL N m).getD i 0) (m + 1) := by
    rw [sN_head _ rfl, sN_congr _ _ m fun i hi => highL_get N m i hi, ← cards_times hv hd m hm]
    exact sN_congr _ _ _ fun i hi => by rw [cardL_get, if_pos hi]
  have hcle : ∀ i, (cardL N m).getD i 0 ≤ V := fun i => by
    rcases Nat.lt_or_ge i (m + 1) with h | h
    · have := sN_at (fun i => (cardL N m).getD i 0) (m + 1) i h
      rw [hall] at this; exact this
    · rw [getD_far _ _ (by unfold cardL; simp; omega)]; exact Nat.zero_le _
  have h128 : m ≤ 128 := by omega
  have hhs : sN (fun i => (highL N m).getD i 0) (m + 1) ≤ 256 * V := Nat.le_trans (sN_const _ V (m + 1) fun i _ => hhle i) (Nat.mul_le_mul_right _ (by omega))
  refine ⟨hlh, fun i => n8_129 hV8 (Nat.le_trans (hlle i) (by omega)), fun i => n8_129 hV8 (Nat.le_trans (hhle i) (by omega)), fun i => n8_129 hV8 (Nat.le_trans (hcle i) (by omega)), fun i hi => n8_129 hV8 (Nat.mul_le_mul (by omega) (hcle i)), fun k hk => ?_, fun k hk => ?_, fun k hk => ?_, hall, hlits⟩
  · have := sN_mono (fun i => (cardL N m).getD i 0) hk
    rw [hall] at this
    exact n8_129 hV8 (by omega)
  · exact n8_129 hV8 (Nat.le_trans (sN_mono _ hk) hhs)
  · refine n8_129 hV8 (Nat.le_trans (sN_mono _ hk) ?_)
    rw [← hlits]; exact hhs
end Cs
namespace Go.Proofs.YtcgejdlfiemjaaaDoor
/-- What lies in memory ahead of a round of the law. -/
structure AE (w : World) (N : Nt) (A : Option Addr) (c m g3 gL gH gc ga V a h s : Nat) (wr : World) : Prop where
  net : wr.rowIs w.heap.size 24 2 (ntF N A c)
  b3 : wr.rowIs g3 28 1 fun _ => .string (natB V)
  lo : wr.rowIs gL 28 (m + 1) (natsF (lowL N m))
  hi : wr.rowIs gH 28 (m + 1) (natsF (highL N m))
  ca : wr.rowIs gc 28 (m + 1) (natsF (cardL N m))
  ba : wr.rowIs ga 28 1 fun _ => .string (natB a)
  bh : wr.rowIs (ga + 1) 28 1 fun _ => .string (natB h)
  bs : wr.rowIs (ga + 1 + 1) 28 1 fun _ => .string (natB s)
  bl : Below w.heap.size w wr
  lt : w.heap.size < ga ∧ g3 < ga ∧ gL < ga ∧ gH < ga ∧ gc < ga
section
variable {w : World} {N : Nt} {A : Option Addr} {c m g3 gL gH gc ga V a h s : Nat} {wr w' : World}
theorem AE.below (k : AE w N A c m g3 gL gH gc ga V a h s wr) (hb : Below wr.heap.size wr w') : AE w N A c m g3 gL gH gc ga V a h s w' :=
  ⟨rowBelow k.net hb, rowBelow k.b3 hb, rowBelow k.lo hb, rowBelow k.hi hb, rowBelow k.ca hb, rowBelow k.ba hb, rowBelow k.bh hb, rowBelow k.bs hb, Cs.Below.trans' k.bl hb k.bl.size, k.lt⟩
theorem AE.drew (k : AE w N A c m g3 gL gH gc ga V a h s wr) : AE w N A c m g3 gL gH gc ga V a h s wr.drew := k.below (belowDrewN (Below.refl _ _) 1)
theorem AE.setA (k : AE w N A c m g3 gL gH gc ga V a h s wr) (x : Nat) : AE w N A c m g3 gL gH gc ga V x h s (wr.setCell ⟨ga, 0, none⟩ (.string (natB x))) := by
  obtain ⟨h1, h2, h3, h4, h5⟩ := k.lt
  exact ⟨k.net.setOther (by simp; omega) _, k.b3.setOther (by simp; omega) _, k.lo.setOther (by simp; omega) _, k.hi.setOther (by simp; omega) _, k.ca.setOther (by simp; omega) _, boxSet k.ba _, k.bh.setOther (by simp) _, k.bs.setOther (by simp; omega) _, k.bl.setCell (by simp; omega) _, k.lt⟩
theorem AE.setH (k : AE w N A c m g3 gL gH gc ga V a h s wr) (x : Nat) : AE w N A c m g3 gL gH gc ga V a x s (wr.setCell ⟨ga + 1, 0, none⟩ (.string (natB x))) := by
  obtain ⟨h1, h2, h3, h4, h5⟩ := k.lt
  exact ⟨k.net.setOther (by simp; omega) _, k.b3.setOther (by simp; omega) _, k.lo.setOther (by simp; omega) _, k.hi.setOther (by simp; omega) _, k.ca.setOther (by simp; omega) _, k.ba.setOther (by simp) _, boxSet k.bh _, k.bs.setOther (by simp) _, k.bl.setCell (by simp; omega) _, k.lt⟩
theorem AE.setS (k : AE w N A c m g3 gL gH gc ga V a h s wr) (x : Nat) : AE w N A c m g3 gL gH gc ga V a h x (wr.setCell ⟨ga + 1 + 1, 0, none⟩ (.string (natB x))) := by
  obtain ⟨h1, h2, h3, h4, h5⟩ := k.lt
  exact ⟨k.net.setOther (by simp; omega) _, k.b3.setOther (by simp; omega) _, k.lo.setOther (by simp; omega) _, k.hi.setOther (by simp; omega) _, k.ca.setOther (by simp; omega) _, k.ba.setOther (by simp; omega) _, k.bh.setOther (by simp) _, boxSet k.bs _, k.bl.setCell (by simp; omega) _, k.lt⟩
end
set_option maxRecDepth 100000 in
set_option maxHeartbeats 8000000 in
theorem adds_ok (w : World) (N : Nt) (A : Option Addr) (c m : Nat) (hm : N.n = (m : Int)) (hN : NtAt w w.heap.size A N.l) (hT : Tab w) (hk0 : cchk N = 0) (hf : fewB N = true) :
    Calls Tryd.prog 6 #[ntV N A c] w fun e w' => e = .returned (.bool true) ∧ Below w.heap.size w w' := by
  have hnet := ntNew w N A c 24 _ rfl
  have hbl : Below w.heap.size w (w.alloc (.cells #[.int .i64 N.n, .slice A N.l.length c] 24)) := (Below.refl _ _).alloc (Nat.le_refl _) _
  obtain ⟨hv, _, _⟩ := cchk_zero hk0
  obtain ⟨hn0, hn1, hl0, hl1⟩ := vld_bounds hv
  have hfw := fun W h => few_any W N A c (by omega) h
  rw [hf] at hfw
  have hc1 := fun W h hT => count_any W N A c (by omega) h hT
  have hc2 := fun W h hT => byLit_any W N A c m hm h hT hk0
  have hc3 := fun W h hT => byCard_any W N A c m hm h hT hk0
  have hsm := sums_of m hm hk0
  rw [hk0] at hc1
  obtain ⟨V, hV⟩ : ∃ V, cntN N = V := ⟨_, rfl⟩
  rw [hV] at hsm
  simp only [hV] at hc1
  have HFW := Lib.hid hfw
  have HC1 := Lib.hid hc1
  have HC2 := Lib.hid hc2
  have HC3 := Lib.hid hc3
  have HSM := Lib.hid hsm
  have HWK := Lib.hid works_any
  have hz := natB_zero
  have HZ := Lib.hid hz
  clear hfw hc1 hc2 hc3 hsm hV hv hf hk0 hz
  obtain ⟨n, l⟩ := N
  simp only at hm hn0 hn1 hl0 hl1 hN
  subst hm
  have hwr : IntKind.i64.wrap ((m : Int) + 1) = (m : Int) + 1 := by rw [IntKind.wrap_i64]; omega
  have hwr2 : wrap64 ((m : Int) + 1) = (m : Int) + 1 := by unfold wrap64; omega
  go_enter Tryd.func6, Tryd.ntmps6
  go_wp2_with fail
  refine (HFW.out _ ((hN.below hbl).more hbl.size)).mono ?_
  rintro e w2 ⟨rfl, hb2⟩
  replace hnet := rowBelow hnet hb2
  replace hbl := Cs.Below.trans' hbl hb2 hbl.size
  obtain ⟨hn1', hn2'⟩ := ntCells hnet
  go_wp2_with fail
  refine (HC1.out _ ((hN.below hbl).more hbl.size) (hT.below hbl)).mono ?_
  rintro e w3 ⟨rfl, hb3⟩
  replace hnet := rowBelow hnet hb3
  replace hbl := Cs.Below.trans' hbl hb3 hbl.size
  have hx3 := boxNew w3 (.string (natB V)) 28 _ rfl
  replace hnet := hnet.alloc (.cells #[.string (natB V)] 28)
  replace hbl := hbl.alloc hbl.size (.cells #[.string (natB V)] 28)
  obtain ⟨hn1', hn2'⟩ := ntCells hnet
  clear hb2 hb3
  go_wp2_with fail
  refine (HC2.out _ ((hN.below hbl).more hbl.size) (hT.below hbl)).mono ?_
  rintro e w4 ⟨gL, gH, rfl, hgL, hgH, hlo, hhi, hb4⟩
  replace hx3 := rowBelow hx3 hb4
  replace hnet := rowBelow hnet hb4
  replace hbl := Cs.Below.trans' hbl hb4 hbl.size
  obtain ⟨hn1', hn2'⟩ := ntCells hnet
  clear hb4
  go_wp2_with fail
  refine (HC3.out _ ((hN.below hbl).more hbl.size) (hT.below hbl)).mono ?_
  rintro e w5 ⟨gc, rfl, hgc, hca, hb5⟩
  replace hx3 := rowBelow hx3 hb5
  replace hlo := rowBelow hlo hb5
  replace hhi := rowBelow hhi hb5
  replace hnet := rowBelow hnet hb5
  replace hbl := Cs.Below.trans' hbl hb5 hbl.size
  obtain ⟨hn1', hn2'⟩ := ntCells hnet
  clear hb5
  have hE0 : AE w ⟨(m : Int), l⟩ A c m w3.heap.size gL gH gc w5.heap.size V 0 0 0 (((w5.alloc (.cells #[.string ⟨#[]⟩] 28)).alloc (.cells #[.string ⟨#[]⟩] 28)).alloc (.cells #[.string ⟨#[]⟩] 28)) := by
    rw [← HZ.out]
    exact ⟨((hnet.alloc _).alloc _).alloc _, ((hx3.alloc _).alloc _).alloc _, ((hlo.alloc _).alloc _).alloc _, ((hhi.alloc _).alloc _).alloc _, ((hca.alloc _).alloc _).alloc _,
      ((boxNew w5 _ _ _ rfl).alloc _).alloc _, (boxNew _ _ _ _ (by simp)).alloc _, boxNew _ _ _ _ (by simp), ((hbl.alloc hbl.size _).alloc (by simp; have := hbl.size; omega) _).alloc (by simp; have := hbl.size; omega) _, ⟨hnet.lt, hx3.lt, hlo.lt, hhi.lt, hca.lt⟩⟩
  have HE0 := Lib.hid hE0
  clear hE0 hx3 hlo hhi hca hnet hbl
  go_wp2
  go_loopw [13] (fun t wr => ∃ k : Nat, k ≤ m + 1 ∧ t = .int .i64 (k : Int) ∧ AE w ⟨(m : Int), l⟩ A c m w3.heap.size gL gH gc w5.heap.size V (sN (fun i => (cardL ⟨(m : Int), l⟩ m).getD i 0) k) (sN (fun i => (highL ⟨(m : Int), l⟩ m).getD i 0) k) (sN (fun i => i * (cardL ⟨(m : Int), l⟩ m).getD i 0) k) wr) (fun t _ => m + 1 - (intOf t).toNat)
  case atStart => exact ⟨0, by omega, rfl, HE0.out⟩
  case round =>
    obtain ⟨k, hk, rfl, hE⟩ := hrel
    obtain ⟨ga, hga⟩ : ∃ ga, w5.heap.size = ga := ⟨_, rfl⟩
    obtain ⟨g3, hg3⟩ : ∃ ga, w3.heap.size = ga := ⟨_, rfl⟩
    simp only [hga, hg3] at hE ⊢
    clear HE0 hn1' hn2'
    obtain ⟨hn1', hn2'⟩ := ntCells hE.net
    by_cases hlt : k < m + 1
    · have hi1 : (k : Int) ≤ (m : Int) := by omega
      have hi2 : (0 : Int) ≤ (k : Int) := by omega
      have hi3 : (k : Int) < (m : Int) + 1 := by omega
      have hk1 := hlt
      have hsa := sN_succ (fun i => (cardL ⟨(m : Int), l⟩ m).getD i 0) k
      have hsh := sN_succ (fun i => (highL ⟨(m : Int), l⟩ m).getD i 0) k
      have hss := sN_succ (fun i => i * (cardL ⟨(m : Int), l⟩ m).getD i 0) k
      have ha1 := fun W => add_any W _ _ (HSM.out.a8 k (by omega)) (HSM.out.card8 k)
      have ha2 := fun W => add_any W _ _ (HSM.out.h8 k (by omega)) (HSM.out.high8 k)
      have ha3 := fun W => add_any W _ _ (HSM.out.s8 k (by omega)) (HSM.out.c8 k (by omega))
      have hml := fun W => mul_any W k _ (n8_few k (by omega)) (HSM.out.card8 k)
      have hof := fun W => of_any W k (by omega)
      have hlow : 0 < k → (lowL ⟨(m : Int), l⟩ m).getD k 0 + (highL ⟨(m : Int), l⟩ m).getD k 0 = V := fun hp => by
        have hsum := HSM.out.low (k - 1) (by omega)
        rw [show k - 1 + 1 = k by omega] at hsum
        exact hsum
      have hx8 := HSM.out.low8 k
      have hy8 := HSM.out.high8 k
      have hxy : ∀ (W : World) (a h s : Nat), AE w ⟨(m : Int), l⟩ A c m g3 gL gH gc ga V a h s W → W.cell? ⟨gL, k, none⟩ = some (.string (natB ((lowL ⟨(m : Int), l⟩ m).getD k 0))) ∧ W.cell? ⟨gH, k, none⟩ = some (.string (natB ((highL ⟨(m : Int), l⟩ m).getD k 0))) ∧ W.cell? ⟨gc, k, none⟩ = some (.string (natB ((cardL ⟨(m : Int), l⟩ m).getD k 0))) := fun W a h s hh =>
        ⟨hh.lo.cell (i := k) hk1, hh.hi.cell (i := k) hk1, hh.ca.cell (i := k) hk1⟩
      obtain ⟨x, hx⟩ : ∃ x, (lowL ⟨(m : Int), l⟩ m).getD k 0 = x := ⟨_, rfl⟩
      obtain ⟨y, hy⟩ : ∃ x, (highL ⟨(m : Int), l⟩ m).getD k 0 = x := ⟨_, rfl⟩
      obtain ⟨z, hz⟩ : ∃ x, (cardL ⟨(m : Int), l⟩ m).getD k 0 = x := ⟨_, rfl⟩
      simp only [hx, hy, hz] at hxy hlow hx8 hy8 ha1 ha2 ha3 hml hsa hsh hss
      have HXY := Lib.hid hxy
      have HLOW := Lib.hid hlow
      have HX8 := Lib.hid hx8
      have HY8 := Lib.hid hy8
      clear hxy hlow hx8 hy8 hx hy hz
      obtain ⟨a, ha⟩ : ∃ a, sN (fun i => (cardL ⟨(m : Int), l⟩ m).getD i 0) k = a := ⟨_, rfl⟩
      obtain ⟨h, hh⟩ : ∃ a, sN (fun i => (highL ⟨(m : Int), l⟩ m).getD i 0) k = a := ⟨_, rfl⟩
      obtain ⟨s, hs⟩ : ∃ a, sN (fun i => i * (cardL ⟨(m : Int), l⟩ m).getD i 0) k = a := ⟨_, rfl⟩
      rw [ha] at hsa
      rw [hh] at hsh
      rw [hs] at hss
      simp only [ha] at ha1
      simp only [hh] at ha2
      simp only [hs] at ha3
      simp only [ha, hh, hs] at hE
      have HA1 := Lib.hid ha1
      have HA2 := Lib.hid ha2
      have HA3 := Lib.hid ha3
      have HML := Lib.hid hml
      have HOF := Lib.hid hof
      have HSA := Lib.hid hsa
      have HSH := Lib.hid hsh
      have HSS := Lib.hid hss
      have htn : ((k : Int)).toNat = k := by omega
      have hcv : IntKind.u64.wrap (k : Int) = (k : Int) := by rw [IntKind.wrap_u64]; omega
      clear ha1 ha2 ha3 hml hof hsa hsh hss ha hh hs hlt
      go_wp2_with fail
      go_cut [104] from 89 to 104 (fun v wx => v = .bool false ∧ AE w ⟨(m : Int), l⟩ A c m g3 gL gH gc ga V a h s wx)
      case first =>
        replace hE := hE.drew
        obtain ⟨c1, c2, _⟩ := HXY.out _ _ _ _ hE
        have c3 := boxCell hE.b3
        by_cases hk0 : k = 0
        · have hkn : ¬ (0 : Int) < (k : Int) := by omega
          have hkn2 : ¬ 0 < k := by omega
          clear hk0
          go_region
          all_goals
            try go_wp2
            go_meet
            case rel => exact ⟨rfl, hE⟩
        · have hkp : (0 : Int) < (k : Int) := by omega
          have hkp2 : 0 < k := by omega
          have hsum := HLOW.out hkp2
          have hadd := fun W => add_any W x y HX8.out HY8.out
          simp only [hsum] at hadd
          have HADD := Lib.hid hadd
          have hcm := fun W => cmp_eq W V
          have HCM := Lib.hid hcm
          clear hadd hsum hcm
          go_region_held3 (fun w' => w'.cell? ⟨gL, k, none⟩ = some (.string (natB x)) ∧ w'.cell? ⟨gH, k, none⟩ = some (.string (natB y)) ∧ w'.cell? ⟨g3, 0, none⟩ = some (.string (natB V))) (first | exact ⟨c1, c2, c3⟩ | go_keep)
            (first
              | (go_simp
                 go_at_call 21
                 (with_reducible refine (HADD.out _).mono ?_)
                 rintro e w9 ⟨rfl, hb9⟩
                 replace hE := hE.below hb9
                 obtain ⟨c1, c2, _⟩ := HXY.out _ _ _ _ hE
                 have c3 := boxCell hE.b3)
              | (go_simp
                 go_at_call 20
                 (with_reducible refine (HCM.out _).mono ?_)
                 rintro e w9 ⟨rfl, hb9⟩
                 replace hE := hE.below hb9
                 obtain ⟨c1, c2, _⟩ := HXY.out _ _ _ _ hE
                 have c3 := boxCell hE.b3))
          all_goals
            try go_wp2
            go_meet
            case rel => exact ⟨rfl, hE⟩
      case rest =>
        clear hE
        obtain ⟨rfl, hE⟩ := hcut
        go_wp2_with fail
        replace hE := hE.drew
        have c1 := boxCell hE.ba
        have c2 := (HXY.out _ _ _ _ hE).2.2
        have c3 := hE.ba.frozen 0
        refine wp_region_heldE (fun w' => w'.cell? ⟨ga, 0, none⟩ = some (.string (natB a)) ∧ w'.cell? ⟨gc, k, none⟩ = some (.string (natB z))) 6 (by kernel_rfl) ⟨c1, c2⟩ (fun hS => ?_)
        refine wpAnyE_take (i := 0) (v := ?_) hS (by kernel_rfl) rfl (by kernel_rfl) (by kernel_rfl) (fun _ _ _ h => h) (Or.inl ⟨by rfl, ?_⟩) ?_
        rotate_left
        · (intro w hSw; go_simp; try with_reducible rfl)
        try simp only [Act.put, List.setIfInBounds_toArray, List.set_cons_zero, List.set_cons_succ]
        refine wpAnyE_take (i := 1) (v := ?_) hS (by kernel_rfl) rfl (by kernel_rfl) (by kernel_rfl) (fun _ _ _ h => h) (Or.inl ⟨by rfl, ?_⟩) ?_
        rotate_left
        · (intro w hSw; go_simp; try with_reducible rfl)
        try simp only [Act.put, List.setIfInBounds_toArray, List.set_cons_zero, List.set_cons_succ]
        refine wpAnyE_take (i := 2) (v := ?_) hS (by kernel_rfl) rfl (by kernel_rfl) (by kernel_rfl) (fun _ _ _ h => h) (Or.inl ⟨by rfl, ?_⟩) ?_
        rotate_left
        · (intro w hSw; go_simp; try with_reducible rfl)
        try simp only [Act.put, List.setIfInBounds_toArray, List.set_cons_zero, List.set_cons_succ]
        refine wpAnyE_take (i := 3) (v := ?_) hS (by kernel_rfl) rfl (by kernel_rfl) (by kernel_rfl) (fun _ _ _ h => h) (Or.inl ⟨by rfl, ?_⟩) ?_
        rotate_left
        · (intro w hSw; go_simp; try with_reducible rfl)
        try simp only [Act.put, List.setIfInBounds_toArray, List.set_cons_zero, List.set_cons_succ]
        refine wpAnyE_take (i := 4) (v := ?_) hS (by kernel_rfl) rfl (by kernel_rfl) (by kernel_rfl) (fun _ _ _ h => h) (Or.inl ⟨by rfl, ?_⟩) ?_
        rotate_left
        · (intro w hSw; go_simp; try with_reducible rfl)
        try simp only [Act.put, List.setIfInBounds_toArray, List.set_cons_zero, List.set_cons_succ]
        refine wpAnyE_one 5 (by kernel_rfl) rfl (fun K hK => ?_)
        go_simp
        go_at_call 21
        (with_reducible refine (HA1.out _).mono ?_)
        rintro e w9 ⟨rfl, hb9⟩
        replace hE := hE.below hb9
        have c1 := boxCell hE.ba
        have c2 := (HXY.out _ _ _ _ hE).2.2
        have c3 := hE.ba.frozen 0
        refine hK.out _ _ (fun _ => ⟨c1, c2⟩) (fun hS => ?_)
        replace hS := hS (by decide)
        clear hK K
        try simp only [Act.put, List.setIfInBounds_toArray, List.set_cons_zero, List.set_cons_succ]
        refine wpAnyE_one 6 (by kernel_rfl) rfl (fun K hK => ?_)
        go_simp
        refine hK.out _ _ (fun h => absurd rfl h) (fun _ => ?_)
        clear hK K
        refine wpAnyE_done (by kernel_rfl) ?_ _
        replace hE := hE.setA (a + z)
        clear c1 c2 c3
        go_wp2_with fail
        replace hE := hE.drew
        have c1 := boxCell hE.bh
        have c2 := (HXY.out _ _ _ _ hE).2.1
        have c3 := hE.bh.frozen 0
        refine wp_region_heldE (fun w' => w'.cell? ⟨ga + 1, 0, none⟩ = some (.string (natB h)) ∧ w'.cell? ⟨gH, k, none⟩ = some (.string (natB y))) 6 (by kernel_rfl) ⟨c1, c2⟩ (fun hS => ?_)
        refine wpAnyE_take (i := 0) (v := ?_) hS (by kernel_rfl) rfl (by kernel_rfl) (by kernel_rfl) (fun _ _ _ h => h) (Or.inl ⟨by rfl, ?_⟩) ?_
        rotate_left
        · (intro w hSw; go_simp; try with_reducible rfl)
        try simp only [Act.put, List.setIfInBounds_toArray, List.set_cons_zero, List.set_cons_succ]
        refine wpAnyE_take (i := 1) (v := ?_) hS (by kernel_rfl) rfl (by kernel_rfl) (by kernel_rfl) (fun _ _ _ h => h) (Or.inl ⟨by rfl, ?_⟩) ?_
        rotate_left
        · (intro w hSw; go_simp; try with_reducible rfl)
        try simp only [Act.put, List.setIfInBounds_toArray, List.set_cons_zero, List.set_cons_succ]
        refine wpAnyE_take (i := 2) (v := ?_) hS (by kernel_rfl) rfl (by kernel_rfl) (by kernel_rfl) (fun _ _ _ h => h) (Or.inl ⟨by rfl, ?_⟩) ?_
        rotate_left
        · (intro w hSw; go_simp; try with_reducible rfl)
        try simp only [Act.put, List.setIfInBounds_toArray, List.set_cons_zero, List.set_cons_succ]
        refine wpAnyE_take (i := 3) (v := ?_) hS (by kernel_rfl) rfl (by kernel_rfl) (by kernel_rfl) (fun _ _ _ h => h) (Or.inl ⟨by rfl, ?_⟩) ?_
        rotate_left
        · (intro w hSw; go_simp; try with_reducible rfl)
        try simp only [Act.put, List.setIfInBounds_toArray, List.set_cons_zero, List.set_cons_succ]
        refine wpAnyE_take (i := 4) (v := ?_) hS (by kernel_rfl) rfl (by kernel_rfl) (by kernel_rfl) (fun _ _ _ h => h) (Or.inl ⟨by rfl, ?_⟩) ?_
        rotate_left
        · (intro w hSw; go_simp; try with_reducible rfl)
        try simp only [Act.put, List.setIfInBounds_toArray, List.set_cons_zero, List.set_cons_succ]
        refine wpAnyE_one 5 (by kernel_rfl) rfl (fun K hK => ?_)
        go_simp
        go_at_call 21
        (with_reducible refine (HA2.out _).mono ?_)
        rintro e w9 ⟨rfl, hb9⟩
        replace hE := hE.below hb9
        have c1 := boxCell hE.bh
        have c2 := (HXY.out _ _ _ _ hE).2.1
        have c3 := hE.bh.frozen 0
        refine hK.out _ _ (fun _ => ⟨c1, c2⟩) (fun hS => ?_)
        replace hS := hS (by decide)
        clear hK K
        try simp only [Act.put, List.setIfInBounds_toArray, List.set_cons_zero, List.set_cons_succ]
        refine wpAnyE_one 6 (by kernel_rfl) rfl (fun K hK => ?_)
        go_simp
        refine hK.out _ _ (fun h => absurd rfl h) (fun _ => ?_)
        clear hK K
        refine wpAnyE_done (by kernel_rfl) ?_ _
        replace hE := hE.setH (h + y)
        clear c1 c2 c3
        go_wp2_with fail
        replace hE := hE.drew
        have c1 := boxCell hE.bs
        have c2 := (HXY.out _ _ _ _ hE).2.2
        have c3 := hE.bs.frozen 0
        refine wp_region_heldE (fun w' => w'.cell? ⟨ga + 1 + 1, 0, none⟩ = some (.string (natB s)) ∧ w'.cell? ⟨gc, k, none⟩ = some (.string (natB z))) 10 (by kernel_rfl) ⟨c1, c2⟩ (fun hS => ?_)
        refine wpAnyE_take (i := 0) (v := ?_) hS (by kernel_rfl) rfl (by kernel_rfl) (by kernel_rfl) (fun _ _ _ h => h) (Or.inl ⟨by rfl, ?_⟩) ?_
        rotate_left
        · (intro w hSw; go_simp; try with_reducible rfl)
        try simp only [Act.put, List.setIfInBounds_toArray, List.set_cons_zero, List.set_cons_succ]
        refine wpAnyE_take (i := 1) (v := ?_) hS (by kernel_rfl) rfl (by kernel_rfl) (by kernel_rfl) (fun _ _ _ h => h) (Or.inl ⟨by rfl, ?_⟩) ?_
        rotate_left
        · (intro w hSw; go_simp; try with_reducible rfl)
        try simp only [Act.put, List.setIfInBounds_toArray, List.set_cons_zero, List.set_cons_succ]
        refine wpAnyE_take (i := 2) (v := ?_) hS (by kernel_rfl) rfl (by kernel_rfl) (by kernel_rfl) (fun _ _ _ h => h) (Or.inl ⟨by rfl, ?_⟩) ?_
        rotate_left
        · (intro w hSw; go_simp; try with_reducible rfl)
        try simp only [Act.put, List.setIfInBounds_toArray, List.set_cons_zero, List.set_cons_succ]
        refine wpAnyE_take (i := 4) (v := ?_) hS (by kernel_rfl) rfl (by kernel_rfl) (by kernel_rfl) (fun _ _ _ h => h) (Or.inl ⟨by rfl, ?_⟩) ?_
        rotate_left
        · (intro w hSw; go_simp; try with_reducible rfl)
        try simp only [Act.put, List.setIfInBounds_toArray, List.set_cons_zero, List.set_cons_succ]
        refine wpAnyE_take (i := 5) (v := ?_) hS (by kernel_rfl) rfl (by kernel_rfl) (by kernel_rfl) (fun _ _ _ h => h) (Or.inl ⟨by rfl, ?_⟩) ?_
        rotate_left
        · (intro w hSw; go_simp; try with_reducible rfl)
        try simp only [Act.put, List.setIfInBounds_toArray, List.set_cons_zero, List.set_cons_succ]
        refine wpAnyE_take (i := 6) (v := ?_) hS (by kernel_rfl) rfl (by kernel_rfl) (by kernel_rfl) (fun _ _ _ h => h) (Or.inl ⟨by rfl, ?_⟩) ?_
        rotate_left
        · (intro w hSw; go_simp; try with_reducible rfl)
        try simp only [Act.put, List.setIfInBounds_toArray, List.set_cons_zero, List.set_cons_succ]
        refine wpAnyE_take (i := 7) (v := ?_) hS (by kernel_rfl) rfl (by kernel_rfl) (by kernel_rfl) (fun _ _ _ h => h) (Or.inl ⟨by rfl, ?_⟩) ?_
        rotate_left
        · (intro w hSw; go_simp; try with_reducible rfl)
        try simp only [Act.put, List.setIfInBounds_toArray, List.set_cons_zero, List.set_cons_succ]
        refine wpAnyE_one 3 (by kernel_rfl) rfl (fun K hK => ?_)
        go_simp
        go_at_call 23
        (with_reducible refine (HOF.out _).mono ?_)
        rintro e w9 ⟨rfl, hb9⟩
        replace hE := hE.below hb9
        have c1 := boxCell hE.bs
        have c2 := (HXY.out _ _ _ _ hE).2.2
        have c3 := hE.bs.frozen 0
        refine hK.out _ _ (fun _ => ⟨c1, c2⟩) (fun hS => ?_)
        replace hS := hS (by decide)
        clear hK K
        try simp only [Act.put, List.setIfInBounds_toArray, List.set_cons_zero, List.set_cons_succ]
        refine wpAnyE_one 8 (by kernel_rfl) rfl (fun K hK => ?_)
        go_simp
        go_at_call 22
        (with_reducible refine (HML.out _).mono ?_)
        rintro e w9 ⟨rfl, hb9⟩
        replace hE := hE.below hb9
        have c1 := boxCell hE.bs
        have c2 := (HXY.out _ _ _ _ hE).2.2
        have c3 := hE.bs.frozen 0
        refine hK.out _ _ (fun _ => ⟨c1, c2⟩) (fun hS => ?_)
        replace hS := hS (by decide)
        clear hK K
        try simp only [Act.put, List.setIfInBounds_toArray, List.set_cons_zero, List.set_cons_succ]
        refine wpAnyE_one 9 (by kernel_rfl) rfl (fun K hK => ?_)
        go_simp
        go_at_call 21
        (with_reducible refine (HA3.out _).mono ?_)
        rintro e w9 ⟨rfl, hb9⟩
        replace hE := hE.below hb9
        have c1 := boxCell hE.bs
        have c2 := (HXY.out _ _ _ _ hE).2.2
        have c3 := hE.bs.frozen 0
        refine hK.out _ _ (fun _ => ⟨c1, c2⟩) (fun hS => ?_)
        replace hS := hS (by decide)
        clear hK K
        try simp only [Act.put, List.setIfInBounds_toArray, List.set_cons_zero, List.set_cons_succ]
        refine wpAnyE_one 10 (by kernel_rfl) rfl (fun K hK => ?_)
        go_simp
        refine hK.out _ _ (fun h => absurd rfl h) (fun _ => ?_)
        clear hK K
        refine wpAnyE_done (by kernel_rfl) ?_ _
        replace hE := hE.setS (s + k * z)
        clear c1 c2 c3
        go_wp2
        go_roundw
        case rel => exact ⟨k + 1, by omega, by go_num, by rw [HSA.out, HSH.out, HSS.out]; exact hE⟩
        case measure => simp [intOf]; omega
    · obtain rfl : k = m + 1 := by omega
      rw [HSM.out.all, ← HSM.out.lits] at hE
      obtain ⟨h, hh⟩ : ∃ a, sN (fun i => (highL ⟨(m : Int), l⟩ m).getD i 0) (m + 1) = a := ⟨_, rfl⟩
      rw [hh] at hE
      have hcm := fun W x => cmp_eq W x
      have htx := fun W => text_any W 0 (n8_few 0 (by decide))
      rw [dec_zero] at htx
      have HCM := Lib.hid hcm
      have HTX := Lib.hid htx
      clear hcm htx hh hlt
      have hi1 : ¬ (((m + 1 : Nat) : Int) ≤ (m : Int)) := by omega
      have hi0 : (0 : Int) < (m : Int) + 1 := by omega
      have c1 := boxCell hE.ba
      have c2 := boxCell hE.b3
      have c3 := boxCell hE.bh
      have c4 := boxCell hE.bs
      have c5 := hE.lo.cell (i := 0) (by omega)
      have c6 := hE.hi.cell (i := 0) (by omega)
      have e5 : natsF (lowL ⟨(m : Int), l⟩ m) 0 = .string (natB 0) := rfl
      have e6 : natsF (highL ⟨(m : Int), l⟩ m) 0 = .string (natB 0) := rfl
      rw [e5] at c5
      rw [e6] at c6
      clear e5 e6
      go_wp2_with (first
        | (go_at_call 20
           (with_reducible refine (HCM.out _ _).mono ?_)
           rintro e w9 ⟨rfl, hb9⟩
           replace hE := hE.below hb9
           have c1 := boxCell hE.ba
           have c2 := boxCell hE.b3
           have c3 := boxCell hE.bh
           have c4 := boxCell hE.bs
           have c5 : w9.cell? ⟨gL, 0, none⟩ = some (.string (natB 0)) := hE.lo.cell (i := 0) (by omega)
           have c6 : w9.cell? ⟨gH, 0, none⟩ = some (.string (natB 0)) := hE.hi.cell (i := 0) (by omega))
        | (go_at_call 14
           (with_reducible refine (HTX.out _).mono ?_)
           rintro e w9 ⟨rfl, hb9⟩
           replace hE := hE.below hb9
           have c1 := boxCell hE.ba
           have c2 := boxCell hE.b3
           have c3 := boxCell hE.bh
           have c4 := boxCell hE.bs
           have c5 : w9.cell? ⟨gL, 0, none⟩ = some (.string (natB 0)) := hE.lo.cell (i := 0) (by omega)
           have c6 : w9.cell? ⟨gH, 0, none⟩ = some (.string (natB 0)) := hE.hi.cell (i := 0) (by omega))
        | (go_at_call 11
           (with_reducible refine (HWK.out _ (hT.below hE.bl)).mono ?_)
           rintro e w9 ⟨rfl, hb9⟩
           replace hE := hE.below hb9))
      go_ret
      exact ⟨rfl, hE.bl⟩
set_option maxRecDepth 100000 in
set_option maxHeartbeats 4000000 in
theorem adds_no (w : World) (N : Nt) (A : Option Addr) (c : Nat) (hlen : N.l.length ≤ 140737488355328) (hN : NtAt w w.heap.size A N.l) (hT : Tab w) (h : fewB N = false ∨ cchk N ≠ 0) :
    Calls Tryd.prog 6 #[ntV N A c] w fun e w' => e = .returned (.bool true) ∧ Below w.heap.size w w' := by
  have hnet := ntNew w N A c 24 _ rfl
  have hbl : Below w.heap.size w (w.alloc (.cells #[.int .i64 N.n, .slice A N.l.length c] 24)) := (Below.refl _ _).alloc (Nat.le_refl _) _
  have hfw := fun W h => few_any W N A c hlen h
  have HFW := Lib.hid hfw
  have HWK := Lib.hid works_any
  clear hfw
  cases hf : fewB N
  · rw [hf] at HFW
    clear hf h
    obtain ⟨n, l⟩ := N
    go_enter Tryd.func6, Tryd.ntmps6
    go_wp2_with fail
    refine (HFW.out _ ((hN.below hbl).more hbl.size)).mono ?_
    rintro e w2 ⟨rfl, hb2⟩
    have hbl2 := Cs.Below.trans' hbl hb2 hbl.size
    go_wp2_with fail
    refine (HWK.out _ (hT.below hbl2)).mono ?_
    rintro e w3 ⟨rfl, hb3⟩
    go_wp2
    go_ret
    exact ⟨rfl, Cs.Below.trans' hbl2 hb3 hbl2.size⟩
  · rw [hf] at HFW h
    have hk : cchk N ≠ 0 := h.resolve_left (by decide)
    have hc1 := fun W h hT => count_any W N A c hlen h hT
    have hc2 := fun W h hT => byLit_no W N A c hlen h hT hk
    have hc3 := fun W h hT => byCard_no W N A c hlen h hT hk
    have hV : cntN N = 0 := by unfold cntN; rw [if_neg hk]
    simp only [hV] at hc1
    obtain ⟨C, hC⟩ : ∃ V, cchk N = V := ⟨_, rfl⟩
    simp only [hC] at hc1 hc2 hc3
    have hk1 : (C == 0) = false := beq_eq_false_iff_ne.2 (hC ▸ hk)
    have htx := fun W => text_any W 0 (n8_few 0 (by decide))
    rw [dec_zero] at htx
    have HC1 := Lib.hid hc1
    have HC2 := Lib.hid hc2
    have HC3 := Lib.hid hc3
    have HTX := Lib.hid htx
    clear hc1 hc2 hc3 htx hV hf h hC hk
    obtain ⟨n, l⟩ := N
    go_enter Tryd.func6, Tryd.ntmps6
    go_wp2_with fail
    refine (HFW.out _ ((hN.below hbl).more hbl.size)).mono ?_
    rintro e w2 ⟨rfl, hb2⟩
    replace hnet := rowBelow hnet hb2
    replace hbl := Cs.Below.trans' hbl hb2 hbl.size
    obtain ⟨hn1, hn2'⟩ := ntCells hnet
    go_wp2_with fail
    refine (HC1.out _ ((hN.below hbl).more hbl.size) (hT.below hbl)).mono ?_
    rintro e w3 ⟨rfl, hb3⟩
    have hx3 := boxNew w3 (.string (natB 0)) 28 _ rfl
    replace hnet := (rowBelow hnet hb3).alloc (.cells #[.string (natB 0)] 28)
    replace hbl := Cs.Below.trans' hbl hb3 hbl.size
    replace hbl := hbl.alloc hbl.size (.cells #[.string (natB 0)] 28)
    obtain ⟨hn1, hn2'⟩ := ntCells hnet
    clear hb2 hb3
    go_wp2_with fail
    refine (HC2.out _ ((hN.below hbl).more hbl.size) (hT.below hbl)).mono ?_
    rintro e w4 ⟨rfl, hb4⟩
    replace hx3 := rowBelow hx3 hb4
    replace hnet := rowBelow hnet hb4
    replace hbl := Cs.Below.trans' hbl hb4 hbl.size
    obtain ⟨hn1, hn2'⟩ := ntCells hnet
    clear hb4
    go_wp2_with fail
    refine (HC3.out _ ((hN.below hbl).more hbl.size) (hT.below hbl)).mono ?_
    rintro e w5 ⟨rfl, hb5⟩
    replace hx3 := rowBelow hx3 hb5
    replace hbl := Cs.Below.trans' hbl hb5 hbl.size
    have c3 := boxCell hx3
    clear hb5 hnet hn1 hn2'
    go_wp2_with fail
    refine (HTX.out _).mono ?_
    rintro e w6 ⟨rfl, hb6⟩
    replace hbl := Cs.Below.trans' hbl hb6 hbl.size
    go_wp2_with fail
    refine (HWK.out _ (hT.below hbl)).mono ?_
    rintro e w7 ⟨rfl, hb7⟩
    go_wp2
    go_ret
    exact ⟨rfl, Cs.Below.trans' hbl hb7 hbl.size⟩
theorem countAdds_any (w : World) (N : Nt) (A : Option Addr) (c : Nat) (hlen : N.l.length ≤ 140737488355328) (hN : NtAt w w.heap.size A N.l) (hT : Tab w) :
    Calls Tryd.prog 6 #[ntV N A c] w fun e w' => e = .returned (.bool true) ∧ Below w.heap.size w w' := by
  by_cases h : fewB N = false ∨ cchk N ≠ 0
  · exact adds_no w N A c hlen hN hT h
  · have hk : cchk N = 0 := by
      rcases Decidable.em (cchk N = 0) with h1 | h1
      · exact h1
      · exact absurd (.inr h1) h
    have hf : fewB N = true := by
      cases hf : fewB N
      · exact absurd (.inl hf) h
      · rfl
    obtain ⟨hv, _, _⟩ := cchk_zero hk
    obtain ⟨hn0, _, _, _⟩ := vld_bounds hv
    exact adds_ok w N A c N.n.toNat (by omega) hN hT hk hf
end Go.Proofs.YtcgejdlfiemjaaaDoor
