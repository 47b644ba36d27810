/- The walk of the reference's gap. -/
import Derived.Test.YtcgejdlfiemjaaaDoorR6
import Derived.Test.YtcgejdlfiemjaaaDoorRi
set_option linter.unusedSimpArgs false
set_option linter.unusedVariables false
open Go Go.RowKit Cs
namespace Go.Proofs.YtcgejdlfiemjaaaDoor
/-- The polynomials L lie in the slice at A. -/
def RPs (w : World) (B : Nat) (A : Option Addr) (L : List (List Nat)) : Prop :=
  0 < L.length → ∃ b o, A = some ⟨b, o, none⟩ ∧ b < B ∧ ∀ i, i < L.length → ∃ Ai ci, w.cell? ⟨b, o + i, none⟩ = some (.slice Ai (L.getD i []).length ci) ∧ (L.getD i []).length ≤ ci ∧ RdS w B Ai (L.getD i [])
section
variable {w w' : World} {B B' : Nat} {A : Option Addr} {L : List (List Nat)}
theorem RPs.below (h : RPs w B A L) (hb : Below B w w') : RPs w' B A L := fun hn => by
  obtain ⟨b, o, e, hB, hc⟩ := h hn
  exact ⟨b, o, e, hB, fun i hi => let ⟨Ai, ci, h1, h2, h3⟩ := hc i hi; ⟨Ai, ci, below_cell hb hB h1, h2, h3.below hb⟩⟩
theorem RPs.more (h : RPs w B A L) (hB : B ≤ B') : RPs w B' A L := fun hn => by
  obtain ⟨b, o, e, hb, hc⟩ := h hn
  exact ⟨b, o, e, by omega, fun i hi => let ⟨Ai, ci, h1, h2, h3⟩ := hc i hi; ⟨Ai, ci, h1, h2, h3.more hB⟩⟩
end
set_option maxRecDepth 100000 in
set_option maxHeartbeats 2000000 in
theorem rgap_any (w : World) (A Al Ah : Option Addr) (c cl ch : Nat) (p : List Nat) (al ow n : Nat) (lw hw : List (List Nat)) (hW : WOK lw hw) (hll : lw.length = n + 1) (hlh : hw.length = n + 1) (hn : n ≤ 128)
    (hsub : ∀ i, al.testBit i = true → i < n) (hpl : p.length ≤ 50000) (hpc : p.length ≤ c) (hpe : ev p < big)
    (hA : RdS w w.heap.size A p) (hL : RPs w w.heap.size Al lw) (hH : RPs w w.heap.size Ah hw) :
    Calls Tryd.prog 70 #[.slice A p.length c, setV al, setV ow, .slice Al (n + 1) cl, .slice Ah (n + 1) ch] w (RPoly w ((RF lw hw).wide p (vl (minus al ow)))) := by
  have h0 : (w.alloc (.cells #[.int .u64 (lo al : Int), .int .u64 (hi al : Int)] 59)).rowIs w.heap.size 59 2 (setsF [al]) := (pairNew w _ _ _ _ rfl).congr fun i hi => by
    have : i = 0 ∨ i = 1 := by omega
    rcases this with rfl | rfl <;> rfl
  have h1 : ((w.alloc (.cells #[.int .u64 (lo al : Int), .int .u64 (hi al : Int)] 59)).alloc (.cells #[.int .u64 (lo ow : Int), .int .u64 (hi ow : Int)] 59)).rowIs (w.heap.size + 1) 59 2 (setsF [ow]) := (pairNew _ _ _ _ _ (by simp)).congr fun i hi => by
    have : i = 0 ∨ i = 1 := by omega
    rcases this with rfl | rfl <;> rfl
  have hbl : Below w.heap.size w ((w.alloc (.cells #[.int .u64 (lo al : Int), .int .u64 (hi al : Int)] 59)).alloc (.cells #[.int .u64 (lo ow : Int), .int .u64 (hi ow : Int)] 59)) := ((Below.refl _ _).alloc (Nat.le_refl _) _).alloc (by simp) _
  have hA0 := (hA.below hbl).more hbl.size
  have hst : (RF lw hw).wide p (vlk (minus al ow) 0) = p := rfl
  have HW := Lib.hid hW
  have HSUB := Lib.hid hsub
  have HEV := Lib.hid hpe
  have HL := Lib.hid hL
  have HH := Lib.hid hH
  have HLL := Lib.hid hll
  have HLH := Lib.hid hlh
  rw [← vlk_vl]
  obtain ⟨X, hX⟩ : ∃ X, X = fun k => (RF lw hw).wide p (vlk (minus al ow) k) := ⟨_, rfl⟩
  have HX := Lib.hid hX
  have hx0 : X 0 = p := by rw [hX]; exact hst
  have HX0 := Lib.hid hx0
  rw [show (RF lw hw).wide p (vlk (minus al ow) 128) = X 128 by rw [hX]]
  clear hW hsub hpe hL hH hll hlh hX hx0 hst hA
  go_enter Tryd.func70, Tryd.ntmps70
  go_wp2
  go_loopw [0, 11] (fun q t wr => ∃ (k : Nat) (Ak : Option Addr) (ck : Nat), k ≤ 128 ∧ t = .int .i64 ((k : Int) + 1) ∧ q = .slice Ak (X k).length ck ∧ (X k).length ≤ ck ∧ RdS wr wr.heap.size Ak (X k) ∧ wr.rowIs w.heap.size 59 2 (setsF [al]) ∧ wr.rowIs (w.heap.size + 1) 59 2 (setsF [ow]) ∧ Below w.heap.size w wr) (fun _ t _ => 129 - (intOf t).toNat)
  case atStart => exact ⟨0, A, c, by omega, rfl, by rw [HX0.out], by rw [HX0.out]; exact hpc, by rw [HX0.out]; exact hA0, h0.alloc _, h1, hbl⟩
  case round =>
    clear h0 h1 hbl hA0
    obtain ⟨k, Ak, ck, hk, rfl, rfl, hck, hAk, hsa, hso, hbl⟩ := hrel
    obtain ⟨ha1, ha2, _, _⟩ := setPair hsa
    obtain ⟨ho1, ho2, _, _⟩ := setPair hso
    have hsz := hbl.size
    by_cases hlt : k < 128
    · have hia := fun W => rin_any W al (k + 1) (by omega) (by omega)
      have hio := fun W => rin_any W ow (k + 1) (by omega) (by omega)
      simp only [Nat.add_sub_cancel, Int.natCast_succ] at hia hio
      have hmb := minus_bit al ow k
      have hvs := vlk_succ (minus al ow) k
      have HAK := Lib.hid hAk
      clear hAk
      cases hba : al.testBit k
      · rw [hba] at hmb
        simp only [hba] at hia
        rw [hmb] at hvs
        have hxs : X (k + 1) = X k := by rw [HX.out]; simp only [hvs]; rfl
        have HIA := Lib.hid hia
        have HXS := Lib.hid hxs
        clear hia hio hmb hvs hba hxs
        go_wp2_with (go_at_call 77; (with_reducible refine (HIA.out _).mono ?_); rintro e w5 ⟨rfl, hb5⟩)
        go_roundw
        case rel => exact ⟨k + 1, Ak, ck, by omega, by go_num, by rw [HXS.out], by rw [HXS.out]; exact hck, by rw [HXS.out]; exact (HAK.out.below hb5).more hb5.size, rowBelow hsa hb5, rowBelow hso hb5, Cs.Below.trans' hbl hb5 hsz⟩
        case measure => simp [intOf]; omega
      · cases hbo : ow.testBit k
        · rw [hba, hbo] at hmb
          simp only [hba] at hia
          simp only [hbo] at hio
          rw [hmb] at hvs
          have hkn := HSUB.out k hba
          have hvs2 := hvs.trans (if_pos (by rfl))
          obtain ⟨lo1, hlo1⟩ : ∃ q, lw.getD (k + 1) [] = q := ⟨_, rfl⟩
          obtain ⟨hi1, hhi1⟩ : ∃ q, hw.getD (k + 1) [] = q := ⟨_, rfl⟩
          have hwk := HW.out (k + 1)
          rw [hlo1, hhi1] at hwk
          obtain ⟨w1, w2, w3, w4⟩ := hwk
          have hone : ∀ x : Nat, x ≤ 1 → decN x ≤ 10000000 := fun x hx => decN_big2 x (Nat.lt_of_le_of_lt hx (Nat.lt_trans (by decide) two_lt))
          obtain ⟨bt, hbt⟩ : ∃ q, trimP (addP lo1 hi1) = q := ⟨_, rfl⟩
          have hbl2 : bt.length ≤ 2 := by
            rw [← hbt, trimP_len]
            refine Nat.le_trans (tn_le _) ?_
            rw [addP_len]; omega
          have hbe : ev bt ≤ 2 := by rw [← hbt, ev_trimP, ev_addP]; omega
          have hxs : X (k + 1) = trimP (mulF (X k) bt) := by
            rw [HX.out]
            simp only [hvs2]
            rw [RF_wide_snoc]
            show trimP (mulF _ (trimP (addP (lw.getD ((k : Int) + 1).toNat []) (hw.getD ((k : Int) + 1).toNat [])))) = _
            rw [show ((k : Int) + 1).toNat = k + 1 by omega, hlo1, hhi1, hbt]
          have hxe : ev (X k) * 2 < big * 2 ^ 200 := by
            have h1 : ev (X k) ≤ ev p * 2 ^ (vlk (minus al ow) k).length := by rw [HX.out]; exact RF_wide_ev HW.out _ _
            have h2 := vlk_len (minus al ow) k
            have h3 : 2 ^ ((vlk (minus al ow) k).length + 1) ≤ 2 ^ 200 := Nat.pow_le_pow_right (by decide) (by omega)
            calc ev (X k) * 2 ≤ ev p * 2 ^ (vlk (minus al ow) k).length * 2 := Nat.mul_le_mul_right _ h1
              _ = ev p * 2 ^ ((vlk (minus al ow) k).length + 1) := by rw [Nat.pow_succ, Nat.mul_assoc]
              _ ≤ ev p * 2 ^ 200 := Nat.mul_le_mul_left _ h3
              _ < big * 2 ^ 200 := Nat.mul_lt_mul_of_pos_right HEV.out (Nat.two_pow_pos _)
          have hxl : (X k).length ≤ 100000 := by
            have h1 : (X k).length ≤ p.length + (vlk (minus al ow) k).length := by rw [HX.out]; exact RF_wide_len HW.out _ _
            have h2 := vlk_len (minus al ow) k
            omega
          have hxb : ev (X k) * ev bt < big * 2 ^ 200 := Nat.lt_of_le_of_lt (Nat.mul_le_mul_left _ hbe) hxe
          have hpa := fun W A B ca cb h1 h2 => rpadd_any W A B ca cb lo1 hi1 (by omega) (by omega) h1 h2 (fun i => hone _ (Nat.le_trans (ev_le _ i) w2)) (fun i => hone _ (Nat.le_trans (ev_le _ i) w4))
          have hpm := fun W A B ca cb h1 h2 => rpmul_any W A B ca cb (X k) bt hxl (by omega) h1 h2 (fun i => decN_big2 _ (by have := ev_le (X k) i; omega)) (fun i => decN_big2 _ (Nat.lt_of_le_of_lt (Nat.le_trans (ev_le _ i) hbe) two_lt))
            (fun i j => decN_big2 _ (Nat.lt_of_le_of_lt (Nat.mul_le_mul (ev_le _ i) (ev_le _ j)) hxb)) (fun i j t h1 h2 => decN_big2 _ (Nat.lt_of_le_of_lt (cvI_le _ _ i j t h1 h2) hxb))
          rw [hbt] at hpa
          rw [← hxs] at hpm
          have HPA := Lib.hid hpa
          have HPM := Lib.hid hpm
          have HIA := Lib.hid hia
          have HIO := Lib.hid hio
          obtain ⟨bl, ol, rfl, hblB, hcl⟩ := HL.out (by have := HLL.out; omega)
          obtain ⟨bh, oh, rfl, hbhB, hch⟩ := HH.out (by have := HLH.out; omega)
          obtain ⟨Ai, ci, hl1, hl2, hl3⟩ := hcl (k + 1) (by have := HLL.out; omega)
          obtain ⟨Aj, cj, hh1, hh2, hh3⟩ := hch (k + 1) (by have := HLH.out; omega)
          rw [hlo1] at hl1 hl2 hl3
          rw [hhi1] at hh1 hh2 hh3
          have HL1 := Lib.hid hl1
          have HL3 := Lib.hid hl3
          have HH1 := Lib.hid hh1
          have HH3 := Lib.hid hh3
          obtain ⟨XS, hXS⟩ : ∃ q, X (k + 1) = q := ⟨_, rfl⟩
          rw [hXS] at HPM
          have HXS := Lib.hid hXS
          clear hcl hch hl1 hl3 hh1 hh3 hia hio hmb hvs hvs2 hba hbo hxs hpa hpm hxe hxb hxl hone hlo1 hhi1 hbt w1 w2 w3 w4 hbl2 hbe hXS
          go_wp2_with fail
          refine (HIA.out _).mono ?_
          rintro e w5 ⟨rfl, hb5⟩
          replace hsa := rowBelow hsa hb5
          replace hso := rowBelow hso hb5
          replace hbl := Cs.Below.trans' hbl hb5 hsz
          have hrk := (HAK.out.below hb5).more hb5.size
          obtain ⟨ho1, ho2, _, _⟩ := setPair hso
          clear hb5
          go_wp2_with fail
          refine (HIO.out _).mono ?_
          rintro e w6 ⟨rfl, hb6⟩
          replace hsa := rowBelow hsa hb6
          replace hso := rowBelow hso hb6
          have hrk6 := (hrk.below hb6).more hb6.size
          replace hbl := Cs.Below.trans' hbl hb6 hbl.size
          have hsz6 := hbl.size
          have hbl' := belowDrewN hbl 1
          change Below _ _ (World.drew _) at hbl'
          have hsz' := hbl'.size
          have hc1 : w6.drew.cell? ⟨bl, ol + (k + 1), none⟩ = some (.slice Ai lo1.length ci) := below_cell hbl' hblB HL1.out
          have hc2 : w6.drew.cell? ⟨bh, oh + (k + 1), none⟩ = some (.slice Aj hi1.length cj) := below_cell hbl' hbhB HH1.out
          have hsa' := hsa.drew
          have hso' := hso.drew
          have hrk' : RdS w6.drew w6.drew.heap.size Ak (X k) := hrk6
          have HRK := Lib.hid hrk'
          clear hrk hrk6 hb6 hrk'
          have k0 : (0 : Int) ≤ (k : Int) + 1 := by omega
          have k1 : (k : Int) + 1 < (n : Int) + 1 := by omega
          have k2 : ((k : Int) + 1).toNat = k + 1 := by omega
          go_wp2_with fail
          go_region_held3 (fun w' => w'.cell? ⟨bl, ol + (k + 1), none⟩ = some (.slice Ai lo1.length ci) ∧ w'.cell? ⟨bh, oh + (k + 1), none⟩ = some (.slice Aj hi1.length cj)) (first | exact ⟨hc1, hc2⟩ | go_keep)
            (first
              | (go_simp
                 go_at_call 69
                 (with_reducible refine (HPA.out _ Ai Aj ci cj ((HL3.out.below hbl').more hsz').rd ((HH3.out.below hbl').more hsz').rd).mono ?_)
                 rintro e' w9 ⟨B9, d9, rfl, hd9, hr9, hb9⟩
                 have hc1 := below_cell hb9 (Nat.lt_of_lt_of_le hblB hsz') hc1
                 have hc2 := below_cell hb9 (Nat.lt_of_lt_of_le hbhB hsz') hc2
                 have HR9 := Lib.hid hr9
                 have HRK9 := Lib.hid ((HRK.out.below hb9).more hb9.size)
                 replace hsa' := rowBelow hsa' hb9
                 replace hso' := rowBelow hso' hb9
                 replace hbl' := Cs.Below.trans' hbl' hb9 hsz'
                 have hsz' := hbl'.size
                 clear hr9)
              | (go_simp
                 go_at_call 68
                 (with_reducible refine (HPM.out _ Ak B9 ck d9 HRK9.out.rd HR9.out.rd).mono ?_)
                 rintro e' w10 ⟨B10, d10, rfl, hd10, hr10, hb10⟩
                 have hc1 := below_cell hb10 (Nat.lt_of_lt_of_le hblB hsz') hc1
                 have hc2 := below_cell hb10 (Nat.lt_of_lt_of_le hbhB hsz') hc2
                 replace hsa' := rowBelow hsa' hb10
                 replace hso' := rowBelow hso' hb10
                 replace hbl' := Cs.Below.trans' hbl' hb10 hsz'
                 have HR10 := Lib.hid hr10
                 clear hr10))
          all_goals
            try go_wp2
            go_roundw
            case rel => exact ⟨k + 1, B10, d10, by omega, by go_num, by rw [HXS.out], by rw [HXS.out]; exact hd10, by rw [HXS.out]; exact HR10.out, hsa', hso', hbl'⟩
            case measure => simp [intOf]; omega
        · rw [hba, hbo] at hmb
          simp only [hba] at hia
          simp only [hbo] at hio
          rw [hmb] at hvs
          have hxs : X (k + 1) = X k := by rw [HX.out]; simp only [hvs]; rfl
          have HIA := Lib.hid hia
          have HIO := Lib.hid hio
          have HXS := Lib.hid hxs
          clear hia hio hmb hvs hba hbo hxs
          go_wp2_with fail
          refine (HIA.out _).mono ?_
          rintro e w5 ⟨rfl, hb5⟩
          replace hsa := rowBelow hsa hb5
          replace hso := rowBelow hso hb5
          replace hbl := Cs.Below.trans' hbl hb5 hsz
          have hrk := (HAK.out.below hb5).more hb5.size
          obtain ⟨ho1, ho2, _, _⟩ := setPair hso
          clear hb5
          go_wp2_with fail
          refine (HIO.out _).mono ?_
          rintro e w6 ⟨rfl, hb6⟩
          go_wp2
          go_roundw
          case rel => exact ⟨k + 1, Ak, ck, by omega, by go_num, by rw [HXS.out], by rw [HXS.out]; exact hck, by rw [HXS.out]; exact (hrk.below hb6).more hb6.size, rowBelow hsa hb6, rowBelow hso hb6, Cs.Below.trans' hbl hb6 hbl.size⟩
          case measure => simp [intOf]; omega
    · obtain rfl : k = 128 := by omega
      go_wp2
      go_ret
      exact ⟨Ak, ck, rfl, hck, hAk, hbl⟩
end Go.Proofs.YtcgejdlfiemjaaaDoor
