/- The walks of the reference's Eval, Nth and Apart2. -/
import Derived.Test.YtcgejdlfiemjaaaDoorT1
import Derived.Deep.RegionWith
set_option linter.unusedSimpArgs false
set_option linter.unusedVariables false
open Go Go.RowKit Cs
namespace Cs
/-- The first m variables of the place k among the assignments of n variables. -/
def nthR (n k : Nat) : Nat → Nat
  | 0 => 0
  | m + 1 => if k.testBit (n - 1 - m) then nthR n k m ||| 2 ^ m else nthR n k m
theorem nthR_bit (n k i : Nat) : ∀ m, (nthR n k m).testBit i = (decide (i < m) && k.testBit (n - 1 - i))
  | 0 => by simp [nthR]
  | m + 1 => by
    have ih := nthR_bit n k i m
    unfold nthR
    by_cases hb : k.testBit (n - 1 - m) = true
    · rw [if_pos hb, Nat.testBit_or, ih, Nat.testBit_two_pow]
      by_cases h : m = i
      · subst h; simp [hb]
      · by_cases h2 : i < m
        · simp [h, h2, show i < m + 1 by omega]
        · simp [h, h2, show ¬ i < m + 1 by omega]
    · rw [if_neg hb, ih]
      by_cases h : m = i
      · subst h; simp [hb]
      · by_cases h2 : i < m
        · simp [h2, show i < m + 1 by omega]
        · simp [h2, show ¬ i < m + 1 by omega]
theorem nthR_lt (n k m : Nat) : nthR n k m < 2 ^ m := by
  refine Nat.lt_pow_two_of_testBit _ fun i hi => ?_
  rw [nthR_bit]; simp; omega
theorem nthR_back (n s : Nat) (h : s < 2 ^ n) : nthR n (nthR n s n) n = s := by
  apply Nat.eq_of_testBit_eq
  intro i
  rw [nthR_bit, nthR_bit]
  by_cases hi : i < n
  · rw [show n - 1 - (n - 1 - i) = i by omega]; simp [hi, show n - 1 - i < n by omega]
  · simp [hi]
    exact Nat.testBit_lt_two_pow (Nat.lt_of_lt_of_le h (Nat.pow_le_pow_right (n := 2) (by decide) (show n ≤ i by omega)))
/-- How many inputs of a node of kind 4 are true. -/
def cnt4 (T : List Bool) (x : Nd) : Nat := if x.kind = 4 then x.ins.countP fun j => T.getD j.toNat false else 0
def detAt (N : Nt) (s : Nat) : Bool := N.l.all fun x => decide (cnt4 (truth s N.l) x ≤ 1)
/-- What Apart2 tells. -/
def ap2 (N : Nt) (n : Nat) : Bool := (List.range (2 ^ n)).all fun k => detAt N (nthR n k n)
theorem ap2_det {N : Nt} {n : Nat} (h : ap2 N n = true) (s : Nat) (hs : s < 2 ^ n) : detAt N s = true := by
  unfold ap2 at h
  rw [List.all_eq_true] at h
  have := h (nthR n s n) (List.mem_range.2 (nthR_lt n s n))
  rwa [nthR_back n s hs] at this
theorem ap2_no {N : Nt} {n k : Nat} (hk : k < 2 ^ n) (h : detAt N (nthR n k n) = false) : ap2 N n = false := by
  cases ha : ap2 N n
  · rfl
  · unfold ap2 at ha
    rw [List.all_eq_true] at ha
    rw [ha k (List.mem_range.2 hk)] at h; cases h
theorem ap2_yes {N : Nt} {n : Nat} (h : ∀ k, k < 2 ^ n → detAt N (nthR n k n) = true) : ap2 N n = true := by
  unfold ap2
  rw [List.all_eq_true]
  exact fun k hk => h k (List.mem_range.1 hk)
theorem detAt_yes {N : Nt} {s : Nat} (h : ∀ i (hi : i < N.l.length), cnt4 (truth s N.l) N.l[i] ≤ 1) : detAt N s = true := by
  unfold detAt
  rw [List.all_eq_true]
  intro x hx
  obtain ⟨i, hi, rfl⟩ := List.getElem_of_mem hx
  exact decide_eq_true (h i hi)
theorem detAt_no {N : Nt} {s i : Nat} (hi : i < N.l.length) (h : 1 < cnt4 (truth s N.l) N.l[i]) : detAt N s = false := by
  cases ha : detAt N s
  · rfl
  · unfold detAt at ha
    rw [List.all_eq_true] at ha
    have := of_decide_eq_true (ha _ (List.getElem_mem hi))
    omega
end Cs
namespace Go.Proofs.YtcgejdlfiemjaaaDoor
set_option maxRecDepth 100000 in
set_option maxHeartbeats 2000000 in
theorem reval_any (w : World) (N : Nt) (A : Option Addr) (c s : Nat) (hN : NtAt w w.heap.size A N.l) (hv : vld N = true) :
    Calls Tryd.prog 27 #[ntV N A c, setV s] w fun e w' => e = .returned (.bool (evB N s)) ∧ Below w.heap.size w w' := by
  obtain ⟨hn0, hn1, hl0, hl1⟩ := vld_bounds hv
  have hck := fun W h => rnvalid_any W N A c (by omega) h
  simp only [hv] at hck
  have htr := fun W h => rtruth_any W N A c s h hv
  have hev : (truth s N.l).getD (N.l.length - 1) false = evB N s := rfl
  obtain ⟨E, hE⟩ : ∃ b, evB N s = b := ⟨_, rfl⟩
  rw [hE] at hev ⊢
  obtain ⟨T, hT⟩ : ∃ b, truth s N.l = b := ⟨_, rfl⟩
  rw [hT] at hev
  simp only [hT] at htr
  obtain ⟨n, l⟩ := N
  simp only at hN hn0 hn1 hl0 hl1 hev
  have HCK := Lib.hid hck
  have HTR := Lib.hid htr
  have HEV := Lib.hid hev
  clear hck htr hev hE hT hv
  have hbox := (ntNew w ⟨n, l⟩ A c 24 _ rfl).alloc (.cells #[.int .u64 (lo s : Int), .int .u64 (hi s : Int)] 59)
  have hsb : ((w.alloc (.cells #[.int .i64 n, .slice A l.length c] 24)).alloc (.cells #[.int .u64 (lo s : Int), .int .u64 (hi s : Int)] 59)).rowIs (w.heap.size + 1) 59 2 (setsF [s]) := (pairNew _ _ _ _ _ (by simp)).congr fun i hi => by
    have : i = 0 ∨ i = 1 := by omega
    rcases this with rfl | rfl <;> rfl
  have hbl : Below w.heap.size w ((w.alloc (.cells #[.int .i64 n, .slice A l.length c] 24)).alloc (.cells #[.int .u64 (lo s : Int), .int .u64 (hi s : Int)] 59)) := ((Below.refl _ _).alloc (Nat.le_refl _) _).alloc (by simp) _
  have i0 : (0 : Int) ≤ (l.length : Int) - 1 := by omega
  have i1 : (l.length : Int) - 1 < (l.length : Int) := by omega
  have hwr : IntKind.i64.wrap ((l.length : Int) - 1) = (l.length : Int) - 1 := by rw [IntKind.wrap_i64]; omega
  have htn : ((l.length : Int) - 1).toNat = l.length - 1 := by omega
  go_enter Tryd.func27, Tryd.ntmps27
  go_wp2_with fail
  replace hbox := hbox.drew
  replace hsb := hsb.drew
  replace hbl : Below w.heap.size w (World.drew _) := belowDrewN hbl 1
  obtain ⟨c1, c2⟩ := ntCells hbox
  obtain ⟨c3, c4, _, _⟩ := setPair hsb
  go_region_with
    (first
      | (go_simp
         go_at_call 49
         (with_reducible refine (HCK.out _ ((hN.below hbl).more hbl.size)).mono ?_)
         rintro e w5 ⟨rfl, hb5⟩
         replace hbox := rowBelow hbox hb5
         replace hsb := rowBelow hsb hb5
         replace hbl := Cs.Below.trans' hbl hb5 hbl.size
         obtain ⟨c1, c2⟩ := ntCells hbox
         obtain ⟨c3, c4, _, _⟩ := setPair hsb)
      | (go_simp
         go_at_call 52
         (with_reducible refine (HTR.out _ ((hN.below hbl).more hbl.size)).mono ?_)
         rintro e w6 ⟨g6, d6, rfl, hg6, hr6, hb6⟩
         replace hbox := rowBelow hbox hb6
         replace hsb := rowBelow hsb hb6
         replace hbl := Cs.Below.trans' hbl hb6 hbl.size
         have hc6 : w6.cell? ⟨g6, l.length - 1, none⟩ = some (.bool E) := by
           obtain ⟨b, o, e, _, hcs⟩ := hr6 (by omega)
           injection e with e
           injection e with e1 e2 _
           subst e1; subst e2
           have h1 := hcs (l.length - 1) (by omega)
           rw [Nat.zero_add] at h1
           rw [h1]; unfold boolF; rw [HEV.out]
         clear hr6
         obtain ⟨c1, c2⟩ := ntCells hbox
         obtain ⟨c3, c4, _, _⟩ := setPair hsb))
  all_goals
    try go_wp2
    go_ret
    exact ⟨rfl, hbl⟩
set_option maxRecDepth 100000 in
set_option maxHeartbeats 2000000 in
theorem rnth_any (w : World) (n k : Nat) (hn : n ≤ 20) (hk : k < 1048576) : Calls Tryd.prog 53 #[.int .i64 n, .int .i64 k] w fun e w' => e = .returned (setV (nthR n k n)) ∧ Below w.heap.size w w' := by
  have h0 : (w.alloc (.cells #[.int .u64 0, .int .u64 0] 59)).rowIs w.heap.size 59 2 (setsF [0]) := (pairNew w _ _ _ _ rfl).congr fun i hi => by
    have : i = 0 ∨ i = 1 := by omega
    rcases this with rfl | rfl <;> rfl
  have h1 : ((w.alloc (.cells #[.int .u64 0, .int .u64 0] 59)).alloc (.cells #[.int .u64 0, .int .u64 0] 59)).rowIs (w.heap.size + 1) 59 2 (setsF [0]) := (pairNew _ _ _ _ _ (by simp)).congr fun i hi => by
    have : i = 0 ∨ i = 1 := by omega
    rcases this with rfl | rfl <;> rfl
  have hbl : Below w.heap.size w ((w.alloc (.cells #[.int .u64 0, .int .u64 0] 59)).alloc (.cells #[.int .u64 0, .int .u64 0] 59)) := ((Below.refl _ _).alloc (Nat.le_refl _) _).alloc (by simp) _
  go_enter Tryd.func53, Tryd.ntmps53
  go_wp2
  go_loopw [6] (fun t wr => ∃ m : Nat, m ≤ n ∧ t = .int .i64 ((m : Int) + 1) ∧ wr.rowIs (w.heap.size + 1) 59 2 (setsF [nthR n k m]) ∧ wr.rowIs w.heap.size 59 2 (setsF [0]) ∧ Below w.heap.size w wr) (fun t _ => n + 1 - (intOf t).toNat)
  case atStart => exact ⟨0, by omega, rfl, h1, h0.alloc _, hbl⟩
  case round =>
    clear h0 h1 hbl
    obtain ⟨m, hm, rfl, hs, hr, hbl⟩ := hrel
    obtain ⟨hs1, hs2, hs3, hs4⟩ := setPair hs
    by_cases hlt : m < n
    · have hb := bit_int k (n - 1 - m)
      have hsuc : nthR n k (m + 1) = if k.testBit (n - 1 - m) then nthR n k m ||| 2 ^ m else nthR n k m := rfl
      obtain ⟨B, hB⟩ : ∃ b, k.testBit (n - 1 - m) = b := ⟨_, rfl⟩
      obtain ⟨s, hs0⟩ : ∃ s, nthR n k m = s := ⟨_, rfl⟩
      rw [hB] at hb
      rw [hB, hs0] at hsuc
      rw [hs0] at hs hs1 hs2
      have HSUC := Lib.hid hsuc
      clear hsuc hB hs0
      have e1 : IntKind.i64.wrap ((n : Int) - ((m : Int) + 1)) = ((n - 1 - m : Nat) : Int) := by rw [IntKind.wrap_i64]; omega
      have e1b : ((n : Int) - ((m : Int) + 1)) = ((n - 1 - m : Nat) : Int) := by omega
      have e0 : (m : Int) + 1 - 1 = (m : Int) := by omega
      obtain ⟨d, hd⟩ : ∃ d, n - 1 - m = d := ⟨_, rfl⟩
      rw [hd] at hb e1 e1b
      have hd20 : d < 64 := by omega
      clear hd
      have i1 : (m : Int) + 1 ≤ (n : Int) := by omega
      have e4 := wrap_two m (by omega)
      have e5 := u64_or_nat (lo s) (2 ^ m) (lo_lt s) (Nat.pow_lt_pow_right (by decide) (show m < 64 by omega))
      simp only [Int.natCast_pow, Int.cast_ofNat_Int] at e5
      have e6 : lo (s ||| 2 ^ m) = lo s ||| 2 ^ m := by rw [lo_or, lo_two, if_pos (by omega)]
      have e7 : hi (s ||| 2 ^ m) = hi s := by rw [hi_or, hi_two m (by omega), if_pos (by omega)]; simp
      have hp := setsPut1 hs e7
      rw [e6] at hp
      have HPP := Lib.hid hp
      have HS := Lib.hid hs
      clear e6 e7 hp hs
      cases B
      · go_wp2
        go_roundw
        case rel => exact ⟨m + 1, by omega, by go_num, by rw [HSUC.out]; exact HS.out, hr, hbl⟩
        case measure => simp [intOf]; omega
      · go_wp2
        go_roundw
        case rel => exact ⟨m + 1, by omega, by go_num, by rw [HSUC.out]; exact HPP.out, hr.setOther (by simp) _, hbl.setCell (by simp) _⟩
        case measure => simp [intOf]; omega
    · obtain rfl : m = n := by omega
      have hrs := setPair hr
      obtain ⟨hr1, hr2, hr3, hr4⟩ := hrs
      have hi1 : ¬ ((m : Int) + 1 ≤ (m : Int)) := by omega
      have hfin := ((hr.set 0 (.int .u64 (lo (nthR m k m) : Int))).set 1 (.int .u64 (hi (nthR m k m) : Int)))
      have HFN := Lib.hid hfin
      clear hfin hlt
      go_wp2
      refine ret_set rfl (nthR m k m) rfl HFN.out rfl rfl rfl ⟨rfl, (hbl.setCell (by simp) _).setCell (by simp) _⟩
theorem cnt_take (f : Int → Bool) (ks : List Int) (m : Nat) (h : m < ks.length) : (ks.take (m + 1)).countP f = (ks.take m).countP f + if f (ks.getD m 0) then 1 else 0 := by
  rw [List.take_succ_eq_append_getElem h, List.countP_append]
  have e : ks.getD m 0 = ks[m] := by simp [List.getD, h]
  rw [e, List.countP_cons]; simp
set_option maxRecDepth 100000 in
set_option maxHeartbeats 4000000 in
theorem rapart2_any (w : World) (N : Nt) (A : Option Addr) (c m : Nat) (hm : N.n = (m : Int)) (hm12 : m ≤ 12) (hN : NtAt w w.heap.size A N.l) (hv : vld N = true) :
    Calls Tryd.prog 26 #[ntV N A c] w fun e w' => e = .returned (.bool (ap2 N m)) ∧ Below w.heap.size w w' := by
  obtain ⟨hn0, hn1, hl0, hl1⟩ := vld_bounds hv
  have htr := fun W s h => rtruth_any W N A c s h hv
  have hnt := fun W k h => rnth_any W m k (by omega) h
  have hfm := fun k hk => vld_formed hv k hk
  have hno := fun k hk h => ap2_no (N := N) (n := m) (k := k) hk h
  have hye := fun h => ap2_yes (N := N) (n := m) h
  have hdy := fun s h => detAt_yes (N := N) (s := s) h
  have hdn := fun s i hi h => detAt_no (N := N) (s := s) (i := i) hi h
  obtain ⟨P, hP⟩ : ∃ b, ap2 N m = b := ⟨_, rfl⟩
  simp only [hP] at hno hye ⊢
  obtain ⟨DA, hDA⟩ : ∃ f : Nat → Bool, ∀ s, detAt N s = f s := ⟨_, fun _ => rfl⟩
  simp only [hDA] at hno hye hdy hdn
  obtain ⟨TT, hTT⟩ : ∃ f : Nat → List Bool, ∀ s, truth s N.l = f s := ⟨_, fun _ => rfl⟩
  have htl : ∀ s, (TT s).length = N.l.length := fun s => by rw [← hTT]; exact truth_len s N.l
  simp only [hTT] at htr hdy hdn
  have HTR := Lib.hid htr
  have HNT := Lib.hid hnt
  have HF := Lib.hid hfm
  have HNO := Lib.hid hno
  have HYE := Lib.hid hye
  have HDY := Lib.hid hdy
  have HDN := Lib.hid hdn
  have HTL := Lib.hid htl
  clear htr hnt hfm hno hye hdy hdn hP hDA hTT htl hv
  obtain ⟨n, l⟩ := N
  simp only at hm hN hn0 hn1 hl0 hl1
  subst hm
  have hbox := ntNew w ⟨(m : Int), l⟩ A c 24 _ rfl
  have hbl : Below w.heap.size w (w.alloc (.cells #[.int .i64 (m : Int), .slice A l.length c] 24)) := (Below.refl _ _).alloc (Nat.le_refl _) _
  have h2m : (2 : Nat) ^ m ≤ 4096 := Nat.pow_le_pow_right (n := 2) (by decide) hm12
  obtain ⟨M, hM⟩ : ∃ M, (2 : Nat) ^ m = M := ⟨_, rfl⟩
  have hMi : ((2 : Int) ^ m) = (M : Int) := by rw [← hM, Int.natCast_pow]; rfl
  rw [hM] at h2m
  have hMw : IntKind.i64.wrap (M : Int) = (M : Int) := by rw [IntKind.wrap_i64]; omega
  simp only [hM] at HNO HYE
  go_enter Tryd.func26, Tryd.ntmps26
  go_wp2
  go_loopw [3] (fun t wr => ∃ k : Nat, k ≤ M ∧ t = .int .i64 (k : Int) ∧ Hid (∀ j, j < k → DA (nthR m j m) = true) ∧ wr.rowIs w.heap.size 24 2 (ntF ⟨(m : Int), l⟩ A c) ∧ Below w.heap.size w wr) (fun t _ => M - (intOf t).toNat)
  case atStart => exact ⟨0, by omega, rfl, Lib.hid (fun j hj => absurd hj (by omega)), hbox, hbl⟩
  case round =>
    clear hbox hbl
    obtain ⟨k, hk, rfl, HD, hbox, hbl⟩ := hrel
    obtain ⟨hc1, hc2⟩ := ntCells hbox
    have hgw := hbox.lt
    by_cases hlt : k < M
    · have hi1 : (k : Int) < (M : Int) := by omega
      go_wp2_with fail
      have c1 : wr.drew.cell? ⟨w.heap.size, 0, none⟩ = some (.int .i64 (m : Int)) := hc1
      have c2 : wr.drew.cell? ⟨w.heap.size, 1, none⟩ = some (.slice A l.length c) := hc2
      replace hbox := hbox.drew
      replace hbl : Below w.heap.size w wr.drew := belowDrewN hbl 1
      clear hc1 hc2
      go_region_held3 (fun w' => w'.cell? ⟨w.heap.size, 0, none⟩ = some (.int .i64 (m : Int)) ∧ w'.cell? ⟨w.heap.size, 1, none⟩ = some (.slice A l.length c)) (first | exact ⟨c1, c2⟩ | go_keep)
        (first
          | (go_simp
             go_at_call 53
             (with_reducible refine (HNT.out _ k (by omega)).mono ?_)
             rintro e w5 ⟨rfl, hb5⟩
             replace hbox := rowBelow hbox hb5
             replace hbl := Cs.Below.trans' hbl hb5 hbl.size
             obtain ⟨c1, c2⟩ := ntCells hbox)
          | (go_simp
             go_at_call 52
             (with_reducible refine (HTR.out _ _ ((hN.below hbl).more hbl.size)).mono ?_)
             rintro e w6 ⟨g6, d6, rfl, hg6, hr6, hb6⟩
             replace hbox := rowBelow hbox hb6
             replace hbl := Cs.Below.trans' hbl hb6 hbl.size
             have HR6 := Lib.hid hr6
             clear hr6 hg6 hb6
             obtain ⟨c1, c2⟩ := ntCells hbox))
      all_goals
        try go_wp2
        have htl := HTL.out (nthR m k m)
        have hdy := HDY.out (nthR m k m)
        have hdn := HDN.out (nthR m k m)
        have hno := HNO.out k hlt
        have hdk := HD.out
        obtain ⟨T, hT⟩ : ∃ T, TT (nthR m k m) = T := ⟨_, rfl⟩
        simp only [hT] at htl hdy hdn HR6
        have HDY1 := Lib.hid hdy
        have HDN1 := Lib.hid hdn
        have HNO1 := Lib.hid hno
        have HTL1 := Lib.hid htl
        have HBOX := Lib.hid hbox
        have HBL := Lib.hid hbl
        clear htl hdy hdn hno hdk hT c1 c2 hbox hbl
        go_loopw [5] (fun t wq => ∃ i : Nat, i ≤ l.length ∧ t = .int .i64 (i : Int) ∧ Hid (∀ j (hj : j < l.length), j < i → cnt4 T l[j] ≤ 1) ∧ wq = w6) (fun t _ => l.length - (intOf t).toNat)
        case atStart => exact ⟨0, by omega, rfl, Lib.hid (fun j _ hj => absurd hj (by omega)), rfl⟩
        case round =>
          obtain ⟨i, hi, rfl, HC, rfl⟩ := hrel
          have hbox := HBOX.out
          have hbl := HBL.out
          obtain ⟨hc1, hc2⟩ := ntCells hbox
          by_cases hilt : i < l.length
          · obtain ⟨b, o, rfl, hbB, hcs⟩ := hN (by omega)
            have hnd := hcs i hilt
            clear hcs
            have hfk := HF.out i hilt
            have hdn := HDN1.out i hilt
            have hcn : cnt4 T l[i] = if l[i].kind = 4 then l[i].ins.countP fun j => T.getD j.toNat false else 0 := rfl
            have hcc := HC.out
            have hnx : (cnt4 T l[i] ≤ 1) → ∀ j (hj : j < l.length), j < i + 1 → cnt4 T l[j] ≤ 1 := fun h j hj hji => by
              rcases Nat.lt_or_ge j i with h1 | h1
              · exact hcc j hj h1
              · have : j = i := by omega
                subst this; exact h
            obtain ⟨x, hx⟩ : ∃ x, l[i] = x := ⟨_, rfl⟩
            simp only [hx] at hnd hfk hdn hcn hnx
            have hin := formed_ins hfk
            have HIN := Lib.hid hin
            have HDN2 := Lib.hid hdn
            have HCN := Lib.hid hcn
            have HNX := Lib.hid hnx
            clear hin hfk hx hdn hcn hnx hcc
            obtain ⟨hk1, hk2, ⟨A', c', hk3, hrd⟩, hr1, hr2, hr3, hr4⟩ := hnd
            replace hk1 := below_cell hbl hbB hk1
            replace hk3 := below_cell hbl hbB hk3
            have HRD := Lib.hid (hrd.below hbl)
            clear hrd hk2
            have hi0 : (0 : Int) ≤ (i : Int) := by omega
            have hi1 : (i : Int) < (l.length : Int) := by omega
            obtain ⟨kd, hkd⟩ : ∃ kd, x.kind = kd := ⟨_, rfl⟩
            rw [hkd] at hk1 HCN
            have HKD := Lib.hid hkd
            clear hkd hbox hbl hr1 hr2
            go_wp2
            go_loopw [6, 7] (fun mv t wq => ∃ j : Nat, j ≤ x.ins.length ∧ t = .int .i64 (j : Int) ∧ mv = .int .i64 (((x.ins.take j).countP fun j => T.getD j.toNat false : Nat) : Int) ∧ (j = 0 ∨ kd = 4) ∧ wq = wr) (fun _ t _ => x.ins.length - (intOf t).toNat)
            case atStart => exact ⟨0, by omega, rfl, rfl, .inl rfl, rfl⟩
            case round =>
              obtain ⟨j, hj, rfl, rfl, hj4, rfl⟩ := hrel
              by_cases hin : j < x.ins.length ∧ kd = 4
              · obtain ⟨hjlt, rfl⟩ := hin
                obtain ⟨b', o', rfl, hbB', hcs⟩ := HRD.out (by omega)
                have hc := hcs j hjlt
                clear hcs
                unfold intF at hc
                obtain ⟨q, hq1, hq2⟩ := HIN.out j hjlt
                have hct := cnt_take (fun j => T.getD j.toNat false) x.ins j hjlt
                rw [hq1] at hc hct
                simp only [Int.toNat_natCast] at hct
                have hle := List.countP_le_length (p := fun j => T.getD j.toNat false) (l := x.ins.take j)
                rw [List.length_take] at hle
                obtain ⟨C, hC⟩ : ∃ C, (x.ins.take j).countP (fun j => T.getD j.toNat false) = C := ⟨_, rfl⟩
                simp only [hC] at hct hle ⊢
                obtain ⟨bb, oo, e6, hb6, hcs6⟩ := HR6.out (by omega)
                injection e6 with e6
                injection e6 with e61 e62 _
                subst e61; subst e62
                have hcq := hcs6 q (by omega)
                rw [Nat.zero_add] at hcq
                unfold boolF at hcq
                obtain ⟨y, hy⟩ : ∃ y, T.getD q false = y := ⟨_, rfl⟩
                rw [hy] at hcq
                simp only [Int.toNat_natCast, hy] at hct
                have HCT := Lib.hid hct
                have j0 : (0 : Int) ≤ (j : Int) := by omega
                have j1 : (j : Int) < (x.ins.length : Int) := by omega
                have q0 : (0 : Int) ≤ (q : Int) := by omega
                have q1 : (q : Int) < (l.length : Int) := by omega
                have hwr : IntKind.i64.wrap ((C : Int) + 1) = (C : Int) + 1 := by rw [IntKind.wrap_i64]; omega
                clear hq1 hct hC hy hcs6 hle hj4
                cases y
                all_goals
                  go_wp2
                  go_roundw
                  case rel => exact ⟨j + 1, by omega, by go_num, by rw [HCT.out]; first | rfl | (simp; done) | (go_num), .inr (by first | rfl | trivial), by first | rfl | trivial⟩
                  case measure => simp [intOf]; omega
              · have hcnt : cnt4 T x = (x.ins.take j).countP fun j => T.getD j.toNat false := by
                  rw [HCN.out]
                  by_cases h4 : kd = 4
                  · rw [if_pos h4]
                    have : j = x.ins.length := by omega
                    rw [this, List.take_length]
                  · have h0 : j = 0 := by omega
                    rw [if_neg h4, h0]; rfl
                have hle := List.countP_le_length (p := fun j => T.getD j.toNat false) (l := x.ins.take j)
                obtain ⟨C, hC⟩ : ∃ C, (x.ins.take j).countP (fun j => T.getD j.toNat false) = C := ⟨_, rfl⟩
                rw [hC] at hcnt
                simp only [hC] at ⊢
                have HCNT := Lib.hid hcnt
                clear hcnt hC hle
                have hcase : (¬ (j < x.ins.length)) ∨ (j < x.ins.length ∧ kd ≠ 4) := by omega
                clear hin
                by_cases hC1 : 1 < C
                · have hfin : P = false := HNO1.out (HDN2.out (by rw [HCNT.out]; exact hC1))
                  have HFIN := Lib.hid hfin
                  have hC1i : (1 : Int) < (C : Int) := by omega
                  rcases hcase with h1 | ⟨h1, h2⟩
                  · have h1i : ¬ ((j : Int) < (x.ins.length : Int)) := by omega
                    clear hfin
                    go_wp2
                    go_ret
                    exact ⟨by rw [HFIN.out]; rfl, HBL.out⟩
                  · have h1i : ((j : Int) < (x.ins.length : Int)) := by omega
                    clear hfin
                    go_wp2
                    go_ret
                    exact ⟨by rw [HFIN.out]; rfl, HBL.out⟩
                · have hC1i : ¬ ((1 : Int) < (C : Int)) := by omega
                  have HNX2 := Lib.hid (HNX.out (by rw [HCNT.out]; omega))
                  rcases hcase with h1 | ⟨h1, h2⟩
                  · have h1i : ¬ ((j : Int) < (x.ins.length : Int)) := by omega
                    go_wp2
                    go_roundw
                    case rel => exact ⟨i + 1, by omega, by go_num, HNX2, by first | rfl | trivial⟩
                    case measure => simp [intOf]; omega
                  · have h1i : ((j : Int) < (x.ins.length : Int)) := by omega
                    go_wp2
                    go_roundw
                    case rel => exact ⟨i + 1, by omega, by go_num, HNX2, by first | rfl | trivial⟩
                    case measure => simp [intOf]; omega
          · obtain rfl : i = l.length := by omega
            have hi1 : ¬ ((l.length : Int) < (l.length : Int)) := by omega
            have hall := HDY1.out (fun j hj => HC.out j hj hj)
            have hdk := HD.out
            have HDN3 : Hid (∀ j, j < k + 1 → DA (nthR m j m) = true) := Lib.hid (fun j hj => by
              rcases Nat.lt_or_ge j k with h1 | h1
              · exact hdk j h1
              · rw [show j = k by omega]; exact hall)
            clear hall hdk hilt
            go_wp2
            go_roundw
            case rel => exact ⟨k + 1, by omega, by go_num, HDN3, hbox, hbl⟩
            case measure => simp [intOf]; omega
    · obtain rfl : k = M := by omega
      have hi1 : ¬ ((k : Int) < (k : Int)) := by omega
      have hfin : P = true := HYE.out HD.out
      have HFIN := Lib.hid hfin
      clear hfin
      go_wp2
      go_ret
      exact ⟨by rw [HFIN.out]; rfl, hbl⟩
end Go.Proofs.YtcgejdlfiemjaaaDoor
