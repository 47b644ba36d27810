/- The walk of the natural numbers' long division of words. -/
import Derived.Test.YtgnobohfnhpkdaaGreatDoorD2
import Derived.Test.YtgnobohfnhpkdaaGreatDoorNr
import Derived.WalkMore
import Derived.Maps.AppendAt
import Derived.Deep.CutBlock
import Derived.Deep.CutRange
set_option linter.unusedSimpArgs false
set_option linter.unusedVariables false
open Go Go.RowKit Cs
namespace Cs
theorem dword (U p : Nat) : U / 2 ^ (32 * p) = wd U p + 4294967296 * (U / 2 ^ (32 * (p + 1))) := by
  unfold wd
  rw [pow_next, ← Nat.div_div_eq_div_mul]
  have := Nat.div_add_mod (U / 2 ^ (32 * p)) 4294967296
  omega
theorem top_word {U n : Nat} (h : U < 2 ^ (32 * (n + 1))) : U / 2 ^ (32 * n) = wd U n := by
  unfold wd
  rw [Nat.mod_eq_of_lt]
  rw [Nat.div_lt_iff_lt_mul (Nat.pow_pos (by decide)), Nat.mul_comm, ← pow_next]
  exact h
theorem three_words {U n : Nat} (h : U < 2 ^ (32 * (n + 3))) : U = ((wd U (n + 2) * 4294967296 + wd U (n + 1)) * 4294967296 + wd U n) * 2 ^ (32 * n) + U % 2 ^ (32 * n) := by
  have h1 := dword U n
  have h2 := dword U (n + 1)
  rw [top_word h] at h2
  rw [h2, show wd U n + 4294967296 * (wd U (n + 1) + 4294967296 * wd U (n + 1 + 1)) = (wd U (n + 1 + 1) * 4294967296 + wd U (n + 1)) * 4294967296 + wd U n by omega] at h1
  have h3 := Nat.div_add_mod U (2 ^ (32 * n))
  rw [h1, Nat.mul_comm (2 ^ (32 * n))] at h3
  exact h3.symm
theorem two_words {Y n : Nat} (h : Y < 2 ^ (32 * (n + 2))) : Y = (wd Y (n + 1) * 4294967296 + wd Y n) * 2 ^ (32 * n) + Y % 2 ^ (32 * n) := by
  have h1 := dword Y n
  rw [top_word h, show wd Y n + 4294967296 * wd Y (n + 1) = wd Y (n + 1) * 4294967296 + wd Y n by omega] at h1
  have h3 := Nat.div_add_mod Y (2 ^ (32 * n))
  rw [h1, Nat.mul_comm (2 ^ (32 * n))] at h3
  exact h3.symm
end Cs
namespace Go.Proofs.YtgnobohfnhpkdaaGreatDoor
theorem takeAway_c (w : World) (g N i n cap gy oy capy U T Y d : Nat) (b : Bool) (F : Nat → Value) (hn : n ≤ 1000000) (hiN : i + n < N) (hr0 : w.rowIs g 139 N F) (hF : ∀ k, k ≤ n → F (i + k) = .int .u32 (wd U k))
    (hy : ∀ k, k < n → w.cell? ⟨gy, oy + k, none⟩ = some (.int .u32 (wd Y k))) (hne : gy ≠ g) (hY : Y < 2 ^ (32 * n)) (hi : i ≤ 10000000) (ho : oy ≤ 10000000)
    (hd : d < 4294967296) (hU : U < 2 ^ (32 * (n + 1))) (hT : T < 2 ^ (32 * (n + 1))) (hE : T + d * Y = U + 2 ^ (32 * (n + 1)) * (if b = true then 1 else 0)) :
    Calls Tryz.prog 144 #[.slice (some ⟨g, i, none⟩) (n + 1) cap, .slice (some ⟨gy, oy, none⟩) n capy, .int .u64 d] w fun e w' => e = .returned (.bool b) ∧ w'.rowIs g 139 N (wdAt T i (n + 1) F) ∧ w.grownBy w' (some g) := by
  refine (takeAway_any w g N i n cap gy oy capy U T Y d (if b = true then 1 else 0) F hn hiN hr0 hF hy hne hY hi ho hd (by split <;> omega) hU hT hE).mono ?_
  rintro e w' ⟨rfl, h⟩
  exact ⟨by cases b <;> rfl, h⟩
set_option maxRecDepth 100000 in
set_option maxHeartbeats 2000000 in
theorem long_any (w : World) (g gy n m k cap capy X Y : Nat) (hn : 2 ≤ n) (hm : (m : Int) - (n : Int) = (k : Int)) (hm2 : m ≤ 1000000) (hcap : m ≤ cap) (hx : w.rowIs g 139 m (fun q => .int .u32 (wd X q)))
    (hy : w.rowIs gy 139 n (fun q => .int .u32 (wd Y q))) (hne : gy ≠ g) (hY : Y < 2 ^ (32 * n)) (htop : 2147483648 ≤ wd Y (n - 1)) (hX : X < Y * 2 ^ (32 * k)) :
    Calls Tryz.prog 126 #[.slice (some ⟨g, 0, none⟩) m cap, .slice (some ⟨gy, 0, none⟩) n capy] w fun e w' => ∃ o, w.heap.size ≤ o ∧ e = .returned (.slice (some ⟨o, 0, none⟩) k k) ∧
      w'.rowIs o 139 k (fun q => .int .u32 (wd (X / Y) q)) ∧ w'.rowIs g 139 m (fun q => .int .u32 (wd (X % Y) q)) ∧ w.grownBy w' (some g) := by
  have hmk := mk_u32 k (by omega)
  have hY0 : 0 < Y := by
    rcases Nat.eq_zero_or_pos Y with h | h
    · subst h; simp [wd] at htop
    · exact h
  have hrow0 : (w.alloc (.cells (madeCells #[.int .u32 0] k) 139)).rowIs w.heap.size 139 k (fun _ => .int .u32 0) := rowMade _ _ _ _ _ rfl fun _ _ => rfl
  have hx0 := hx.alloc (.cells (madeCells #[.int .u32 0] k) 139)
  have hg0 : w.grownBy (w.alloc (.cells (madeCells #[.int .u32 0] k) 139)) (some g) := only_alloc (World.grownBy.refl w _) _
  have hgl := hx.lt
  have hyl := hy.lt
  have HX := Lib.hid hX
  have HY := Lib.hid hY
  have HY0 := Lib.hid hY0
  clear hX hY hY0
  go_enter Tryz.func126, Tryz.ntmps126
  go_wp2_with fail
  go_loopw [7] (fun t wr => ∃ j : Nat, j ≤ k ∧ t = .int .i64 ((j : Int) - 1) ∧ wr.rowIs w.heap.size 139 k (fun q => .int .u32 (if q < j then 0 else wd (X / Y) q)) ∧ wr.rowIs g 139 m (fun q => .int .u32 (wd (lr X Y j) q)) ∧ w.grownBy wr (some g) ∧ w.heap.size < wr.heap.size) (fun t _ => (intOf t + 1).toNat)
  case atStart => exact ⟨k, Nat.le_refl _, rfl, hrow0.congr fun q hq => by rw [if_pos hq], hx0.congr fun q _ => by rw [lr_top X Y k HX.out], hg0, by simp⟩
  case round =>
    clear hrow0 hx0 hg0 hmk
    obtain ⟨j, hj, rfl, ho, hr, hg, hsz⟩ := hrel
    rcases Nat.eq_zero_or_pos j with h0 | h0
    · subst h0
      go_wp2
      go_ret
      exact ⟨w.heap.size, Nat.le_refl _, rfl, ho.congr fun q _ => by rw [if_neg (by omega)], hr.congr fun q _ => by rw [lr_zero], hg⟩
    · obtain ⟨i, rfl⟩ : ∃ i, j = i + 1 := ⟨j - 1, by omega⟩
      have ej : ((i + 1 : Nat) : Int) - 1 = (i : Int) := by omega
      rw [ej]
      clear ej h0
      have hU := lr_lt X Y i HY0.out
      obtain ⟨U, hUe⟩ : ∃ U, lr X Y (i + 1) / 2 ^ (32 * i) = U := ⟨_, rfl⟩
      have hw : ∀ q, q ≤ n → wr.cell? ⟨g, i + q, none⟩ = some (.int .u32 (wd U q)) := fun q hq => by rw [hr.cell (i := i + q) (by omega), wd_high, hUe]
      have hyw : ∀ q, q < n → wr.cell? ⟨gy, q, none⟩ = some (.int .u32 (wd Y q)) := fun q hq => hg.cell (hy.cell hq) (by intro e; injection e with e; exact hne e)
      rw [hUe] at hU
      have c1 := hw n (Nat.le_refl _)
      have c2 := hw (n - 1) (by omega)
      have c3 := hw (n - 2) (by omega)
      have c4 := hyw (n - 1) (by omega)
      have c5 := hyw (n - 2) (by omega)
      rw [show i + (n - 1) = i + n - 1 by omega] at c2
      rw [show i + (n - 2) = i + n - 2 by omega] at c3
      have hu1 := wd_lt U n
      have hu2 := wd_lt U (n - 1)
      have hu3 := wd_lt U (n - 2)
      have hy1 := wd_lt Y (n - 1)
      have hy2 := wd_lt Y (n - 2)
      have hor := shl_or (wd U n) (wd U (n - 1)) hu1 hu2
      have HW := Lib.hid hw
      have HYW := Lib.hid hyw
      have HU := Lib.hid hU
      clear hw hyw hU
      go_wp2
      go_step3
      go_wp2
      go_quiet (fail)
      go_wp2
      go_quiet (fail)
      go_wp2
      go_step3
      have hUn : U < 2 ^ (32 * (n + 1)) := Nat.lt_of_lt_of_le HU.out (by rw [pow_next, Nat.mul_comm]; exact Nat.mul_le_mul_right _ (Nat.le_of_lt HY.out))
      have hU3 := three_words (U := U) (n := n - 2) (by rw [show n - 2 + 3 = n + 1 by omega]; exact hUn)
      have hY2 := two_words (Y := Y) (n := n - 2) (by rw [show n - 2 + 2 = n by omega]; exact HY.out)
      rw [show n - 2 + 2 = n by omega, show n - 2 + 1 = n - 1 by omega] at hU3
      rw [show n - 2 + 1 = n - 1 by omega] at hY2
      have hK : 0 < 2 ^ (32 * (n - 2)) := Nat.pow_pos (by decide)
      have hL := Nat.mod_lt U hK
      have hM := Nat.mod_lt Y hK
      obtain ⟨T, hT⟩ : ∃ T, wd U n * 4294967296 + wd U (n - 1) = T := ⟨_, rfl⟩
      rw [hT] at hU3
      have hfirst := trial_first hK hL hU3 hY2 hu3 (by omega)
      have htop2 := trial_top hK hM hU3 hY2 HU.out
      have hdown := fun d rest hr hd => trial_down (d := d) (rest := rest) hK hL hU3 hY2 hr hu3 HU.out hd
      have hkeep := fun d rest hr hd h => trial_keep (d := d) (rest := rest) hM hU3 hY2 hr hd htop h
      have HFIRST := Lib.hid hfirst
      have HTOP := Lib.hid htop2
      have HDOWN := Lib.hid hdown
      have HKEEP := Lib.hid hkeep
      have HUN := Lib.hid hUn
      have HT := Lib.hid hT
      clear hfirst htop2 hdown hkeep hU3 hY2 hK hL hM hUn hT hor
      go_upto_block 2 with fail
      go_cut [9, 10] from 60 to 97 (fun d r wx => ∃ D R : Nat, d = .int .u64 D ∧ r = .int .u64 R ∧ Hid (D * Y < U + Y ∧ U < (D + 1) * Y) ∧ D < 4294967296 ∧ wx.rowIs w.heap.size 139 k (fun q => .int .u32 (if q < i + 1 then 0 else wd (X / Y) q)) ∧ wx.rowIs g 139 m (fun q => .int .u32 (wd (lr X Y (i + 1)) q)) ∧ w.grownBy wx (some g) ∧ w.heap.size < wx.heap.size)
      case first =>
        go_wp2_with fail
        go_loopw [9, 10] (fun d r wx => ∃ D R : Nat, d = .int .u64 D ∧ r = .int .u64 R ∧ R < 4294967296 ∧ D < 18446744073709551616 ∧ Hid (T = D * wd Y (n - 1) + R ∧ U < (D + 1) * Y) ∧ wx.rowIs w.heap.size 139 k (fun q => .int .u32 (if q < i + 1 then 0 else wd (X / Y) q)) ∧ wx.rowIs g 139 m (fun q => .int .u32 (wd (lr X Y (i + 1)) q)) ∧ w.grownBy wx (some g) ∧ w.heap.size < wx.heap.size) (fun d _ _ => (intOf d).toNat)
        case atStart =>
          have hy0 : 0 < wd Y (n - 1) := by omega
          refine ⟨T / wd Y (n - 1), T % wd Y (n - 1), by rw [← HT.out]; simp, by rw [← HT.out]; simp, Nat.lt_trans (Nat.mod_lt _ hy0) hy1, ?_, ⟨?_, HFIRST.out⟩, rowDrewN (rowDrewN ho _) _, rowDrewN (rowDrewN hr _) _, only_drewN (only_drewN hg _) _, hsz⟩
          · exact Nat.lt_of_le_of_lt (Nat.div_le_self _ _) (by have := HT.out; omega)
          · rw [Nat.mul_comm]; exact (Nat.div_add_mod _ _).symm
        case round =>
          clear c1 c2 c3 c4 c5 ho hr hg hsz HFIRST
          obtain ⟨D, R, rfl, rfl, hR, hD, HI, ho, hr, hg, hsz⟩ := hrel
          have c3 : _ = some (Value.int .u32 (wd U (n - 2) : Int)) := (hr.cell (i := i + (n - 2)) (by omega)).trans (by rw [wd_high, hUe])
          rw [show i + (n - 2) = i + n - 2 by omega] at c3
          have hyw : ∀ q, q < n → wr.cell? ⟨gy, q, none⟩ = some (.int .u32 (wd Y q)) := fun q hq => hg.cell (hy.cell hq) (by intro e; injection e with e; exact hne e)
          have c4 := hyw (n - 1) (by omega)
          have c5 := hyw (n - 2) (by omega)
          clear hyw
          have hor := shl_or R (wd U (n - 2)) hR hu3
          obtain ⟨hTe, hUlt⟩ := HI.out
          have hdn := fun hd => HDOWN.out D R hTe hd
          by_cases hbad : 4294967296 ≤ D ∨ R * 4294967296 + wd U (n - 2) < D * wd Y (n - 2)
          · have hd1 := hdn hbad
            have hD1 : 1 ≤ D := by
              rcases Nat.eq_zero_or_pos D with h | h
              · subst h; rcases hbad with h' | h' <;> simp at h'
              · exact h
            have hT2 : T = (D - 1) * wd Y (n - 1) + (R + wd Y (n - 1)) := by
              rw [hTe]
              obtain ⟨D', rfl⟩ : ∃ D', D = D' + 1 := ⟨D - 1, by omega⟩
              rw [Nat.add_mul, Nat.one_mul, Nat.add_sub_cancel]; omega
            have hU2 : U < (D - 1 + 1) * Y := by rw [Nat.sub_add_cancel hD1]; exact hd1
            have hRnat : ((R : Int) + (wd Y (n - 1) : Int)) = ((R + wd Y (n - 1) : Nat) : Int) := by simp
            have hDnat : ((D : Int) - 1) = ((D - 1 : Nat) : Int) := by omega
            have HT2 := Lib.hid hT2
            have HU2 := Lib.hid hU2
            have HRN := Lib.hid hRnat
            have HDN := Lib.hid hDnat
            have hout : 4294967296 ≤ R + wd Y (n - 1) → (D - 1) * Y < U + Y ∧ D - 1 < 4294967296 := fun h => by
              have h1 : D - 1 < 4294967296 := by
                refine Nat.lt_of_not_le fun h2 => ?_
                have h3 : 4294967296 * wd Y (n - 1) ≤ (D - 1) * wd Y (n - 1) := Nat.mul_le_mul_right _ h2
                have h4 := HTOP.out
                rw [hT2] at h4
                omega
              refine ⟨HKEEP.out (D - 1) _ hT2 h1 ?_, h1⟩
              have h5 : (D - 1) * wd Y (n - 2) ≤ 4294967295 * 4294967295 := Nat.mul_le_mul (by omega) (by omega)
              have h6 : 4294967296 * 4294967296 ≤ (R + wd Y (n - 1)) * 4294967296 := Nat.mul_le_mul_right _ h
              omega
            have HOUT := Lib.hid hout
            have hcase : 4294967296 ≤ D ∨ (D < 4294967296 ∧ R * 4294967296 + wd U (n - 2) < D * wd Y (n - 2)) := by
              rcases hbad with h | h
              · exact .inl h
              · rcases Nat.lt_or_ge D 4294967296 with h' | h'
                · exact .inr ⟨h', h⟩
                · exact .inl h'
            clear hbad hd1 hTe hUlt HI hT2 hU2 hRnat hDnat hdn hout
            rcases hcase with h1 | ⟨h1, h2⟩
            · have b1 : decide ((0 : Int) < (D : Int) / 4294967296) = true := decide_eq_true (by omega)
              clear h1
              rcases Nat.lt_or_ge (R + wd Y (n - 1)) 4294967296 with h9 | h9
              · have H9 := Lib.hid h9
                go_wp2
                go_quiet (fail)
                clear b1
                iterate 67 go_step
                refine wp_cond_false (congrArg Value.bool (show decide ((0 : Int) < ((R : Int) + (wd Y (n - 1) : Int)) / 4294967296) = false from decide_eq_false (by omega))) ?_
                go_wp2
                rw [HRN.out, HDN.out]
                go_roundw
                case rel => exact ⟨D - 1, R + wd Y (n - 1), rfl, rfl, H9.out, by omega, ⟨HT2.out, HU2.out⟩, rowDrewN ho _, rowDrewN hr _, only_drewN hg _, hsz⟩
                case measure => simp [intOf]; omega
              · have H9 := Lib.hid h9
                go_wp2
                go_quiet (fail)
                clear b1
                iterate 67 go_step
                refine wp_cond_true (congrArg Value.bool (show decide ((0 : Int) < ((R : Int) + (wd Y (n - 1) : Int)) / 4294967296) = true from decide_eq_true (by omega))) ?_
                go_wp2
                go_meet
                rw [HRN.out, HDN.out]
                exact ⟨D - 1, R + wd Y (n - 1), rfl, rfl, ⟨(HOUT.out H9.out).1, HU2.out⟩, (HOUT.out H9.out).2, rowDrewN ho _, rowDrewN hr _, only_drewN hg _, hsz⟩
            · have b1 : decide ((0 : Int) < (D : Int) / 4294967296) = false := decide_eq_false (by omega)
              obtain ⟨hm1, hm0⟩ := mul_w h1 hy2
              have b2 : decide (((R : Int) * 4294967296 + (wd U (n - 2) : Int)) < (D : Int) * (wd Y (n - 2) : Int)) = true := decide_eq_true (by
                have := Int.ofNat_lt.2 h2
                simpa using this)
              clear h2 h1
              rcases Nat.lt_or_ge (R + wd Y (n - 1)) 4294967296 with h9 | h9
              · have H9 := Lib.hid h9
                go_wp2
                go_quiet (fail)
                clear b1 b2
                iterate 67 go_step
                refine wp_cond_false (congrArg Value.bool (show decide ((0 : Int) < ((R : Int) + (wd Y (n - 1) : Int)) / 4294967296) = false from decide_eq_false (by omega))) ?_
                go_wp2
                rw [HRN.out, HDN.out]
                go_roundw
                case rel => exact ⟨D - 1, R + wd Y (n - 1), rfl, rfl, H9.out, by omega, ⟨HT2.out, HU2.out⟩, rowDrewN ho _, rowDrewN hr _, only_drewN hg _, hsz⟩
                case measure => simp [intOf]; omega
              · have H9 := Lib.hid h9
                go_wp2
                go_quiet (fail)
                clear b1 b2
                iterate 67 go_step
                refine wp_cond_true (congrArg Value.bool (show decide ((0 : Int) < ((R : Int) + (wd Y (n - 1) : Int)) / 4294967296) = true from decide_eq_true (by omega))) ?_
                go_wp2
                go_meet
                rw [HRN.out, HDN.out]
                exact ⟨D - 1, R + wd Y (n - 1), rfl, rfl, ⟨(HOUT.out H9.out).1, HU2.out⟩, (HOUT.out H9.out).2, rowDrewN ho _, rowDrewN hr _, only_drewN hg _, hsz⟩
          · have hb : D < 4294967296 ∧ D * wd Y (n - 2) ≤ R * 4294967296 + wd U (n - 2) := ⟨by omega, by omega⟩
            have hk := HKEEP.out D R hTe hb.1 hb.2
            obtain ⟨h1, h2⟩ := hb
            have b1 : decide ((0 : Int) < (D : Int) / 4294967296) = false := decide_eq_false (by omega)
            obtain ⟨hm1, hm0⟩ := mul_w h1 hy2
            have b2 : decide (((R : Int) * 4294967296 + (wd U (n - 2) : Int)) < (D : Int) * (wd Y (n - 2) : Int)) = false := decide_eq_false (by
              have := Int.ofNat_le.2 h2
              simp at this
              omega)
            have HK := Lib.hid hk
            have HUL := Lib.hid hUlt
            clear hbad hdn hTe hUlt HI h2 hk
            go_wp2
            go_quiet (fail)
            clear b1 b2
            go_wp2
            go_meet
            exact ⟨D, R, rfl, rfl, ⟨HK.out, HUL.out⟩, h1, rowDrewN ho _, rowDrewN hr _, only_drewN hg _, hsz⟩
      case rest =>
        obtain ⟨D, R, rfl, rfl, HD, hD, ho, hr, hg, hsz⟩ := hcut
        clear c1 c2 c3 c4 c5 HFIRST HTOP HDOWN HKEEP HT T
        have hF : ∀ q, q ≤ n → (fun q => Value.int .u32 (wd (lr X Y (i + 1)) q)) (i + q) = .int .u32 (wd U q) := fun q _ => by
          show Value.int .u32 (wd (lr X Y (i + 1)) (i + q)) = _
          rw [wd_high, hUe]
        have hyw : ∀ q, q < n → wc.cell? ⟨gy, 0 + q, none⟩ = some (.int .u32 (wd Y q)) := fun q hq => by rw [Nat.zero_add]; exact hg.cell (hy.cell hq) (by intro e; injection e with e; exact hne e)
        have hB : Y < 2 ^ (32 * (n + 1)) := Nat.lt_of_lt_of_le HY.out (Nat.pow_le_pow_right (by decide) (by omega))
        have hfin : ∀ wq : World, wq.rowIs g 139 m (fun q => if i ≤ q ∧ q < i + (n + 1) then .int .u32 (wd (U % Y) (q - i)) else .int .u32 (wd (lr X Y (i + 1)) q)) → wq.rowIs g 139 m (fun q => .int .u32 (wd (lr X Y i) q)) := fun wq h => h.congr fun q hq => by
          have e1 : lr X Y i / 2 ^ (32 * i) = U % Y := by rw [lr_high, hUe]
          split
          · rename_i h1
            congr 2
            rw [← e1, ← wd_high, show i + (q - i) = q by omega]
          · rename_i h1
            rcases Nat.lt_or_ge q i with h2 | h2
            · rw [lr_low X Y i q h2]
            · have e2 : ∀ Z, Z < 2 ^ (32 * q) → wd Z q = 0 := fun Z hZ => wd_ge _ _ ((nw_le _ _).2 hZ)
              have e3 : ∀ t, t ≤ i + 1 → lr X Y t < 2 ^ (32 * q) := fun t ht => by
                unfold lr
                refine Nat.lt_of_lt_of_le (Nat.mod_lt _ (Nat.mul_pos HY0.out (Nat.pow_pos (by decide)))) ?_
                refine Nat.le_trans (Nat.mul_le_mul (Nat.le_of_lt HY.out) (Nat.le_refl _)) ?_
                rw [← Nat.pow_add]
                exact Nat.pow_le_pow_right (by decide) (by omega)
              rw [e2 _ (e3 (i + 1) (Nat.le_refl _)), e2 _ (e3 i (by omega))]
        have hdig : U / Y = wd (X / Y) i := by rw [← hUe, lr_digit]
        have HFIN := Lib.hid hfin
        have HDIG := Lib.hid hdig
        have hio : ∀ wq : World, wq.rowIs w.heap.size 139 k (fun q => .int .u32 (if q < i + 1 then 0 else wd (X / Y) q)) → (wq.setCell ⟨w.heap.size, i, none⟩ (.int .u32 (wd (X / Y) i : Int))).rowIs w.heap.size 139 k (fun q => .int .u32 (if q < i then 0 else wd (X / Y) q)) := fun wq h => (h.set _ _).congr fun q hq => by
          split
          · subst q; rw [if_neg (by omega)]
          · by_cases h1 : q < i
            · rw [if_pos h1, if_pos (by omega)]
            · rw [if_neg h1, if_neg (by omega)]
        have HIO := Lib.hid hio
        clear hfin hdig hio
        have eL : i + n + 1 - i = n + 1 := by omega
        have EL := Lib.hid eL
        clear eL
        by_cases hDY : D * Y ≤ U
        · obtain ⟨hDe, hT⟩ : D = U / Y ∧ U - D * Y = U % Y := by
            have h1 := HD.out
            have h2 : U / Y = D := by
              rw [Nat.div_eq_iff HY0.out]
              rw [Nat.add_mul, Nat.one_mul] at h1
              omega
            subst h2
            refine ⟨rfl, ?_⟩
            have := Nat.div_add_mod U Y
            rw [Nat.mul_comm] at this
            omega
          have hTB : U % Y < 2 ^ (32 * (n + 1)) := Nat.lt_trans (Nat.mod_lt _ HY0.out) hB
          have hEE : U % Y + D * Y = U + 2 ^ (32 * (n + 1)) * 0 := by rw [← hT]; omega
          have hta := fun cp => takeAway_c wc g m i n cp gy 0 capy U (U % Y) Y D false _ (by omega) (by omega) hr hF hyw hne HY.out (by omega) (by omega) hD HUN.out hTB hEE
          have HTA := Lib.hid hta
          have hdn : (D : Int) = (wd (X / Y) i : Int) := by rw [hDe, HDIG.out]
          have HDN := Lib.hid hdn
          clear hdn
          clear hta hF hyw hB hTB hEE hT hDY HD hDe
          go_wp2_with (
            go_at_call 144
            rw [EL.out]
            (with_reducible refine (HTA.out _).mono ?_)
            rintro e w5 ⟨rfl, hr5, hg5⟩
            have hr6 := HFIN.out _ hr5
            have ho5 := rowGrown ho hg5 (by intro e; injection e with e; omega)
            have c6 := ho5.cell (i := i) (by omega)
            have f6 := ho5.frozen i
            have hsz5 := Nat.lt_of_lt_of_le hsz hg5.size
            have hg6 : w.grownBy w5 (some g) := hg.trans hg5
            have hrel : ∀ W : World, W = w5.setCell ⟨w.heap.size, i, none⟩ (.int .u32 (wd (X / Y) i : Int)) → W.rowIs g 139 m (fun q => .int .u32 (wd (lr X Y i) q)) ∧ w.grownBy W (some g) ∧ w.heap.size < W.heap.size := by
              rintro W rfl
              exact ⟨hr6.setOther (by simp; omega) _, only_setCell hg6 (.inr (Nat.le_refl _)) _, by rw [size_setCell]; exact hsz5⟩
            have HREL := Lib.hid hrel
            clear hrel)
          rw [Exit.noGoto_normal]
          go_wp2
          rw [HDN.out]
          go_roundw
          case rel =>
            exact ⟨i, by omega, rfl, HIO.out _ ho5, (HREL.out _ rfl).1, (HREL.out _ rfl).2.1, (HREL.out _ rfl).2.2⟩
          case measure => simp [intOf]
        · have hDY2 : U < D * Y := by omega
          have hDe : D = U / Y + 1 := by
            have h0 : D ≠ 0 := by rintro rfl; omega
            obtain ⟨D', rfl⟩ : ∃ D', D = D' + 1 := ⟨D - 1, by omega⟩
            have h1 := HD.out
            have h2 : U / Y = D' := by
              rw [Nat.div_eq_iff HY0.out]
              rw [Nat.add_mul, Nat.one_mul] at h1 hDY2
              omega
            rw [h2]
          have h1D : 1 ≤ D := by rw [hDe]; exact Nat.le_add_left _ _
          have hmod := Nat.div_add_mod U Y
          rw [Nat.mul_comm] at hmod
          have hRY := Nat.mod_lt U HY0.out
          have hP : 2 ^ (32 * (n + 1)) + U % Y - Y < 2 ^ (32 * (n + 1)) := by
            generalize U % Y = r at hRY
            generalize 2 ^ (32 * (n + 1)) = M at hB
            omega
          have hEE : 2 ^ (32 * (n + 1)) + U % Y - Y + D * Y = U + 2 ^ (32 * (n + 1)) * 1 := by
            rw [hDe, Nat.add_mul, Nat.one_mul]
            generalize U % Y = r at hmod hRY
            generalize U / Y * Y = p at hmod
            generalize 2 ^ (32 * (n + 1)) = M at hB
            omega
          obtain ⟨T, hT⟩ : ∃ T, 2 ^ (32 * (n + 1)) + U % Y - Y = T := ⟨_, rfl⟩
          rw [hT] at hP hEE
          have hTY : ∀ q, q < n + 1 → wd (Y + T) q = wd (U % Y) q := fun q hq => by
            have e : Y + T = U % Y + 2 ^ (32 * (n + 1)) * 1 := by
              rw [← hT]
              generalize U % Y = r at hRY
              generalize 2 ^ (32 * (n + 1)) = M at hB
              omega
            rw [e, wd_low _ _ _ _ hq]
          have hta := fun cp => takeAway_c wc g m i n cp gy 0 capy U T Y D true _ (by omega) (by omega) hr hF hyw hne HY.out (by omega) (by omega) hD HUN.out hP hEE
          have hgb := fun cp W hW hyW => giveBack_any W g m i n cp gy 0 capy T Y (wdAt T i (n + 1) fun q => .int .u32 (wd (lr X Y (i + 1)) q)) (by omega) (by omega) hW (fun q hq => by unfold wdAt; rw [if_pos (by omega), show i + q - i = q by omega]) hyW hne HY.out (by omega) (by omega)
          have hft : ∀ q, wdAt (Y + T) i (n + 1) (wdAt T i (n + 1) fun q => .int .u32 (wd (lr X Y (i + 1)) q)) q = if i ≤ q ∧ q < i + (n + 1) then .int .u32 (wd (U % Y) (q - i)) else .int .u32 (wd (lr X Y (i + 1)) q) := fun q => by
            rw [wdAt]
            split
            · rename_i h1; rw [hTY (q - i) (by omega)]
            · rename_i h1; show wdAt T i (n + 1) _ q = _; unfold wdAt; rw [if_neg h1]
          have HFT := Lib.hid hft
          clear hft
          have HTA := Lib.hid hta
          have HGB := Lib.hid hgb
          have hdn : (D : Int) - 1 = (wd (X / Y) i : Int) := by rw [← HDIG.out, hDe]; omega
          have HDN := Lib.hid hdn
          clear hdn
          have HTY := Lib.hid hTY
          have HYWC := Lib.hid hyw
          clear hta hgb hF hyw hB hP hEE hT hDY HD hDe hmod hRY hDY2 hTY
          go_wp2_with (first
            | (go_at_call 144
               rw [EL.out]
               (with_reducible refine (HTA.out _).mono ?_)
               rintro e w5 ⟨rfl, hr5, hg5⟩
               have ho5 := rowGrown ho hg5 (by intro e; injection e with e; omega)
               have hsz5 := Nat.lt_of_lt_of_le hsz hg5.size
               have hy5 : ∀ q, q < n → w5.cell? ⟨gy, 0 + q, none⟩ = some (.int .u32 (wd Y q)) := fun q hq => hg5.cell (HYWC.out q hq) (by intro e; injection e with e; exact hne e)
               have HY5 := Lib.hid hy5
               clear hy5
               have hg6 : w.grownBy w5 (some g) := hg.trans hg5)
            | (go_at_call 145
               rw [EL.out]
               (with_reducible refine (HGB.out _ _ hr5 HY5.out).mono ?_)
               rintro e w6 ⟨rfl, hr6, hg7⟩
               have hr8 := HFIN.out _ ((hr6.congr fun q hq => HFT.out q))
               have ho6 := rowGrown ho5 hg7 (by intro e; injection e with e; omega)
               have c6 := ho6.cell (i := i) (by omega)
               have f6 := ho6.frozen i
               have hsz6 := Nat.lt_of_lt_of_le hsz5 hg7.size
               have hg8 : w.grownBy w6 (some g) := hg6.trans hg7
               have hrel : ∀ W : World, W = w6.setCell ⟨w.heap.size, i, none⟩ (.int .u32 (wd (X / Y) i : Int)) → W.rowIs g 139 m (fun q => .int .u32 (wd (lr X Y i) q)) ∧ w.grownBy W (some g) ∧ w.heap.size < W.heap.size := by
                 rintro W rfl
                 exact ⟨hr8.setOther (by simp; omega) _, only_setCell hg8 (.inr (Nat.le_refl _)) _, by rw [size_setCell]; exact hsz6⟩
               have HREL := Lib.hid hrel
               clear hrel))
          rw [Exit.noGoto_normal]
          go_wp2
          rw [HDN.out]
          go_roundw
          case rel =>
            exact ⟨i, by omega, rfl, HIO.out _ ho6, (HREL.out _ rfl).1, (HREL.out _ rfl).2.1, (HREL.out _ rfl).2.2⟩
          case measure => simp [intOf]
end Go.Proofs.YtgnobohfnhpkdaaGreatDoor
