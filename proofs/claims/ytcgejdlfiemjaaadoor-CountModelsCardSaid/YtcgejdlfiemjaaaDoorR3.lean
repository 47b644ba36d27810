/- The walks of the reference's literals and sets: Var, Valid, In. The walks of the reference's nets: Formed, Valid. -/
import Derived.Test.YtcgejdlfiemjaaaDoorV1
import Derived.Test.YtcgejdlfiemjaaaDoorN4
set_option linter.unusedSimpArgs false
set_option linter.unusedVariables false
/-! The walks of the reference's literals and sets: Var, Valid, In. -/
section
open Go Go.RowKit Cs
namespace Go.Proofs.YtcgejdlfiemjaaaDoor
theorem rvar_any (w : World) (l : Int) (h1 : -9223372036854775808 ≤ l) (h2 : l ≤ 9223372036854775807) : Calls Tryd.prog 90 #[.int .i64 l] w fun e w' => e = .returned (.int .i64 (litVar l)) ∧ w = w' := by
  have hv : litVar l = if 1 ≤ l ∧ l ≤ 128 then l else if l ≤ -1 ∧ -128 ≤ l then -l else 0 := rfl
  by_cases a : 1 ≤ l ∧ l ≤ 128
  · rw [if_pos a] at hv
    obtain ⟨a1, a2⟩ := a
    rw [hv]; clear hv
    go_enter Tryd.func90, Tryd.ntmps90
    go_wp2
    go_ret
    exact ⟨rfl, rfl⟩
  · rw [if_neg a] at hv
    by_cases b : l ≤ -1 ∧ -128 ≤ l
    · rw [if_pos b] at hv
      obtain ⟨b1, b2⟩ := b
      have a1 : ¬ 1 ≤ l := by omega
      rw [hv]; clear hv a
      go_enter Tryd.func90, Tryd.ntmps90
      go_wp2
      go_ret
      exact ⟨rfl, rfl⟩
    · rw [if_neg b] at hv
      rw [hv]; clear hv
      have hc : (l = 0) ∨ (128 < l) ∨ (l < -128) := by omega
      clear a b
      rcases hc with rfl | hc | hc
      all_goals
        go_enter Tryd.func90, Tryd.ntmps90
        go_wp2
        go_ret
        exact ⟨rfl, rfl⟩
theorem rvalid_any (w : World) (l n : Int) (h1 : -9223372036854775808 ≤ l) (h2 : l ≤ 9223372036854775807) : Calls Tryd.prog 93 #[.int .i64 l, .int .i64 n] w fun e w' => e = .returned (.bool (litOk l n)) ∧ w = w' := by
  have hv := fun W => rvar_any W l h1 h2
  have hb := litVar_le l
  have he : litOk l n = (decide (0 < litVar l) && decide (litVar l ≤ n)) := by
    unfold litOk; rw [Bool.eq_iff_iff]; simp; intro _; omega
  rw [he]; clear he
  obtain ⟨v, hv'⟩ : ∃ v, litVar l = v := ⟨_, rfl⟩
  rw [hv'] at hb ⊢
  simp only [hv'] at hv
  have HV := Lib.hid hv
  clear hv hv'
  rcases Int.lt_or_le 0 v with h | h
  · rw [decide_eq_true h, Bool.true_and]
    go_enter Tryd.func93, Tryd.ntmps93
    go_wp2_with (go_at_call 90; (with_reducible refine (HV.out _).mono ?_); rintro e w' ⟨rfl, rfl⟩)
    go_ret
    exact ⟨rfl, rfl⟩
  · rw [decide_eq_false (by omega), Bool.false_and]
    go_enter Tryd.func93, Tryd.ntmps93
    go_wp2_with (go_at_call 90; (with_reducible refine (HV.out _).mono ?_); rintro e w' ⟨rfl, rfl⟩)
    go_ret
    exact ⟨rfl, rfl⟩
theorem bit_int (x k : Nat) : ((((x : Nat) : Int) / 2 ^ k).tmod 2 == 1) = x.testBit k := by
  have e : ((x : Nat) : Int) / 2 ^ k = ((x / 2 ^ k : Nat) : Int) := by rw [Int.natCast_ediv, Int.natCast_pow]; rfl
  have e2 : (((x / 2 ^ k : Nat) : Int)).tmod 2 = ((x / 2 ^ k % 2 : Nat) : Int) := (Int.ofNat_tmod _ 2).symm
  rw [e, e2, Nat.testBit_eq_decide_div_mod_eq, Bool.eq_iff_iff]
  simp
  omega
theorem rin_any (w : World) (s v : Nat) (h1 : 1 ≤ v) (h2 : v ≤ 128) : Calls Tryd.prog 77 #[setV s, .int .i64 v] w fun e w' => e = .returned (.bool (s.testBit (v - 1))) ∧ Below w.heap.size w w' := by
  have hlo := lo_bit s (v - 1)
  have hhi := hi_bit s (v - 65)
  have l1 := lo_lt s
  have l2 := hi_lt s
  rcases Nat.lt_or_ge 64 v with h | h
  · have hq : ((v : Int) - 1) / 64 = 1 := by omega
    have hr : ((v : Int) - 1) % 64 = (v : Int) - 65 := by omega
    have i0 : (0 : Int) ≤ (v : Int) - 65 := by omega
    have i1 : (v : Int) - 65 < 64 := by omega
    have hb := bit_int (hi s) (v - 65)
    rw [hhi, show v - 65 + 64 = v - 1 by omega, decide_eq_true (by omega), Bool.true_and] at hb
    have HB := Lib.hid hb
    clear hlo hhi hb
    go_enter Tryd.func77, Tryd.ntmps77
    go_wp2
    go_ret
    exact ⟨congrArg (fun b => Ending.returned (.bool b)) HB.out, (Below.refl _ _).alloc (Nat.le_refl _) _⟩
  · have hq : ((v : Int) - 1) / 64 = 0 := by omega
    have hr : ((v : Int) - 1) % 64 = (v : Int) - 1 := by omega
    have i0 : (0 : Int) ≤ (v : Int) - 1 := by omega
    have i1 : (v : Int) - 1 < 64 := by omega
    have hb := bit_int (lo s) (v - 1)
    rw [hlo, decide_eq_true (by omega), Bool.true_and] at hb
    have HB := Lib.hid hb
    clear hlo hhi hb
    go_enter Tryd.func77, Tryd.ntmps77
    go_wp2
    go_ret
    exact ⟨congrArg (fun b => Ending.returned (.bool b)) HB.out, (Below.refl _ _).alloc (Nat.le_refl _) _⟩
end Go.Proofs.YtcgejdlfiemjaaaDoor
end
/-! The walks of the reference's nets: Formed, Valid. -/
section
open Go Go.RowKit Cs
namespace Go.Proofs.YtcgejdlfiemjaaaDoor
set_option maxRecDepth 100000 in
set_option maxHeartbeats 1000000 in
theorem rformed_any (w : World) (x : Nd) (n before : Int) (A : Option Addr) (c : Nat) (hlen : x.ins.length ≤ 140737488355328) (hr : Rd w w.heap.size A x.ins.length (intF x.ins)) (hrl : r64 x.lit) :
    Calls Tryd.prog 74 #[ndV x A c, .int .i64 n, .int .i64 before] w fun e w' => e = .returned (.bool (formed x n before)) ∧ Below w.heap.size w w' := by
  obtain ⟨kind, lit, ins⟩ := x
  simp only at hlen hr hrl
  obtain ⟨hl1, hl2⟩ := hrl
  have hbl : Below w.heap.size w (w.alloc (.cells #[.int .i64 kind, .int .i64 lit, .slice A ins.length c] 52)) := (Below.refl _ _).alloc (Nat.le_refl _) _
  have hr' := hr.below hbl
  have hlv := fun W => rvalid_any W lit n hl1 hl2
  have HLV := Lib.hid hlv
  clear hlv hr
  obtain ⟨p, hp⟩ : ∃ p : Int → Bool, p = fun i => decide (i < 0) || decide (before ≤ i) := ⟨_, rfl⟩
  have HP := Lib.hid hp
  have hfT : ins.any p = true → formed ⟨kind, lit, ins⟩ n before = false := fun h => by unfold formed; simp only; rw [← hp, if_pos h]
  have hfF : ins.any p = false → formed ⟨kind, lit, ins⟩ n before = if kind = 0 ∨ kind = 1 then decide (lit = 0) && decide (ins.length = 0) else if kind = 2 then litOk lit n && decide (ins.length = 0) else if kind = 3 ∨ kind = 4 then decide (lit = 0) else false := fun h => by
    unfold formed; simp only; rw [← hp, if_neg (by rw [h]; decide)]
  have HFT := Lib.hid hfT
  have HFF := Lib.hid hfF
  clear hp hfT hfF
  generalize formed ⟨kind, lit, ins⟩ n before = F at *
  go_enter Tryd.func74, Tryd.ntmps74
  go_wp2
  go_loop [7] (fun t => ∃ k : Nat, k ≤ ins.length ∧ t = .int .i64 k ∧ Hid ((ins.take k).any p = false)) (fun t => ins.length - (intOf t).toNat)
  case atStart => exact ⟨0, by omega, rfl, rfl⟩
  case round =>
    obtain ⟨k, hk, rfl, HK⟩ := hrel
    by_cases hlt : k < ins.length
    · obtain ⟨b, o, rfl, hb, hcs⟩ := hr' (by omega)
      have hc := hcs k hlt
      unfold intF at hc
      have hg : ins.getD k 0 = ins[k] := by simp [List.getD, hlt]
      rw [hg] at hc
      have ht : ins.take (k + 1) = ins.take k ++ [ins[k]] := List.take_succ_eq_append_getElem hlt
      have hmem : ins[k] ∈ ins := List.getElem_mem hlt
      obtain ⟨y, hy⟩ : ∃ y, ins[k] = y := ⟨_, rfl⟩
      rw [hy] at hc ht hmem
      have HT := Lib.hid ht
      have hbad : (y < 0 ∨ before ≤ y) → F = false := fun h => HFT.out (List.any_eq_true.2 ⟨y, hmem, by rw [HP.out]; simpa using h⟩)
      have HB := Lib.hid hbad
      clear hg ht hy hcs hbad hr' hmem
      by_cases h1 : y < 0
      · go_wp2
        go_ret
        exact ⟨by rw [HB.out (.inl h1)]; try (first | rfl | simp), hbl⟩
      · by_cases h2 : before ≤ y
        · go_wp2
          go_ret
          exact ⟨by rw [HB.out (.inr h2)]; try (first | rfl | simp), hbl⟩
        · go_wp2
          go_round
          case rel =>
            refine ⟨k + 1, by omega, by go_num, ?_⟩
            show _ = _
            rw [HT.out, List.any_append, HK.out, HP.out]
            simp; omega
          case measure => simp [intOf]; omega
    · obtain rfl : k = ins.length := by omega
      have hf := HFF.out (by have := HK.out; rwa [List.take_length] at this)
      have HF := Lib.hid hf
      clear hf hr' HK HFF HFT HP
      have hnil : (decide (ins.length = 0)) = ((ins.length : Int) == 0) := by rw [Bool.eq_iff_iff]; simp
      have hlz : (decide (lit = 0)) = (lit == 0) := by rw [Bool.eq_iff_iff]; simp
      rw [hnil, hlz] at HF
      clear hnil hlz
      have hk : kind = 0 ∨ kind = 1 ∨ kind = 2 ∨ (kind = 3 ∨ kind = 4) ∨ (kind ≠ 0 ∧ kind ≠ 1 ∧ kind ≠ 2 ∧ kind ≠ 3 ∧ kind ≠ 4) := by omega
      rcases hk with rfl | rfl | rfl | hk | ⟨k0, k1, k2, k3, k4⟩
      · have hF : F = (lit == 0 && ((ins.length : Int) == 0)) := by rw [HF.out, if_pos (.inl rfl)]
        cases hl : (lit == 0)
        · rw [hl, Bool.false_and] at hF
          have HF2 := Lib.hid hF; clear hF
          go_wp2
          go_ret
          exact ⟨by rw [HF2.out]; try (first | rfl | simp), hbl⟩
        · rw [hl, Bool.true_and] at hF
          have HF2 := Lib.hid hF; clear hF
          go_wp2
          go_ret
          exact ⟨by rw [HF2.out]; try (first | rfl | simp), hbl⟩
      · have hF : F = (lit == 0 && ((ins.length : Int) == 0)) := by rw [HF.out, if_pos (.inr rfl)]
        cases hl : (lit == 0)
        · rw [hl, Bool.false_and] at hF
          have HF2 := Lib.hid hF; clear hF
          go_wp2
          go_ret
          exact ⟨by rw [HF2.out]; try (first | rfl | simp), hbl⟩
        · rw [hl, Bool.true_and] at hF
          have HF2 := Lib.hid hF; clear hF
          go_wp2
          go_ret
          exact ⟨by rw [HF2.out]; try (first | rfl | simp), hbl⟩
      · have hF : F = (litOk lit n && ((ins.length : Int) == 0)) := by rw [HF.out, if_neg (by omega), if_pos rfl]
        cases hl : litOk lit n
        · rw [hl, Bool.false_and] at hF
          rw [hl] at HLV
          have HF2 := Lib.hid hF; clear hF
          go_wp2_with (go_at_call 93; (with_reducible refine (HLV.out _).mono ?_); rintro e w' ⟨rfl, rfl⟩)
          go_ret
          exact ⟨by rw [HF2.out]; try (first | rfl | simp), hbl⟩
        · rw [hl, Bool.true_and] at hF
          rw [hl] at HLV
          have HF2 := Lib.hid hF; clear hF
          go_wp2_with (go_at_call 93; (with_reducible refine (HLV.out _).mono ?_); rintro e w' ⟨rfl, rfl⟩)
          go_ret
          exact ⟨by rw [HF2.out]; try (first | rfl | simp), hbl⟩
      · have hF : F = (lit == 0) := by rw [HF.out, if_neg (by omega), if_neg (by omega), if_pos hk]
        have HF2 := Lib.hid hF; clear hF
        rcases hk with rfl | rfl
        all_goals
          go_wp2
          go_ret
          exact ⟨by rw [HF2.out]; try (first | rfl | simp), hbl⟩
      · have hF : F = false := by rw [HF.out, if_neg (by omega), if_neg (by omega), if_neg (by omega)]
        have HF2 := Lib.hid hF; clear hF
        have b0 : (kind == 0) = false := beq_eq_false_iff_ne.2 k0
        have b1 : (kind == 1) = false := beq_eq_false_iff_ne.2 k1
        have b2 : (kind == 2) = false := beq_eq_false_iff_ne.2 k2
        have b3 : (kind == 3) = false := beq_eq_false_iff_ne.2 k3
        have b4 : (kind == 4) = false := beq_eq_false_iff_ne.2 k4
        clear k0 k1 k2 k3 k4
        go_wp2
        go_ret
        exact ⟨by rw [HF2.out]; try (first | rfl | simp), hbl⟩
set_option maxRecDepth 100000 in
set_option maxHeartbeats 1000000 in
theorem rnvalid_any (w : World) (N : Nt) (A : Option Addr) (c : Nat) (hlen : N.l.length ≤ 140737488355328) (hN : NtAt w w.heap.size A N.l) :
    Calls Tryd.prog 49 #[ntV N A c] w fun e w' => e = .returned (.bool (vld N)) ∧ Below w.heap.size w w' := by
  obtain ⟨n, l⟩ := N
  simp only at hlen hN
  have hbl : Below w.heap.size w (w.alloc (.cells #[.int .i64 n, .slice A l.length c] 24)) := (Below.refl _ _).alloc (Nat.le_refl _) _
  by_cases hb : 0 ≤ n ∧ n ≤ 128 ∧ 1 ≤ l.length ∧ l.length ≤ 65536
  · obtain ⟨h1, h2, h3, h4⟩ := hb
    have hv : vld ⟨n, l⟩ = allFormed n 0 l := by
      unfold vld; simp [h1, h2, h3, h4]
    have hV := Lib.hid hv; clear hv
    have hbox := ntNew w ⟨n, l⟩ A c 24 _ rfl
    go_enter Tryd.func49, Tryd.ntmps49
    go_wp2
    go_loopw [3] (fun t wr => ∃ k : Nat, k ≤ l.length ∧ t = .int .i64 k ∧ Hid (allFormed n 0 (l.take k) = true) ∧ wr.rowIs w.heap.size 24 2 (ntF ⟨n, l⟩ A c) ∧ Below w.heap.size w wr) (fun t _ => l.length - (intOf t).toNat)
    case atStart => exact ⟨0, by omega, rfl, rfl, hbox, hbl⟩
    case round =>
      clear hbox hbl
      obtain ⟨k, hk, rfl, HK, hbox, hbl⟩ := hrel
      obtain ⟨hc1, hc2⟩ := ntCells hbox
      by_cases hlt : k < l.length
      · obtain ⟨b, o, rfl, hbB, hcs⟩ := hN (by omega)
        have hnd := (hcs k hlt).below hbl hbB
        clear hcs
        have ht := allFormed_take n l k hlt
        obtain ⟨x, hx⟩ : ∃ x, l[k] = x := ⟨_, rfl⟩
        rw [hx] at hnd ht
        have HT := Lib.hid ht; clear ht hx
        obtain ⟨hk1, hk2, ⟨A', c', hk3, hrd⟩, hr1, hr2, hr3, hr4⟩ := hnd
        have hsz := hbl.size
        have hrd' : Rd wr.drew wr.drew.heap.size A' x.ins.length (intF x.ins) := Rd.more (w := wr.drew) hrd hsz
        have HFM := Lib.hid (rformed_any wr.drew x n k A' c' hr4 hrd' hr2)
        have HR := Lib.hid hr2
        have hbox' := hbox.drew
        have hbl' := belowDrewN hbl 1
        change Below _ _ (World.drew _) at hbl'
        obtain ⟨hd1, hd2⟩ := ntCells hbox'
        have hd3 : wr.drew.cell? ⟨b, o + k * 3, none⟩ = some (.int .i64 x.kind) := hk1
        have hd4 : wr.drew.cell? ⟨b, o + k * 3 + 1, none⟩ = some (.int .i64 x.lit) := hk2
        have hd5 : wr.drew.cell? ⟨b, o + k * 3 + 2, none⟩ = some (.slice A' x.ins.length c') := hk3
        have hi0 : (0 : Int) ≤ (k : Int) := by omega
        have hi1 : (k : Int) < (l.length : Int) := by omega
        clear hrd hrd' hr1 hr2 hr3
        cases hf : formed x n (k : Int)
        all_goals
          rw [hf] at HFM
          have HF := Lib.hid hf; clear hf
          go_wp2_with fail
          go_region_held3 (fun w' => w'.cell? ⟨w.heap.size, 0, none⟩ = some (.int .i64 n) ∧ w'.cell? ⟨w.heap.size, 1, none⟩ = some (.slice (some ⟨b, o, none⟩) l.length c) ∧ w'.cell? ⟨b, o + k * 3, none⟩ = some (.int .i64 x.kind) ∧ w'.cell? ⟨b, o + k * 3 + 1, none⟩ = some (.int .i64 x.lit) ∧ w'.cell? ⟨b, o + k * 3 + 2, none⟩ = some (.slice A' x.ins.length c'))
            (first | exact ⟨hd1, hd2, hd3, hd4, hd5⟩ | go_keep)
            (first
              | (go_simp
                 go_at_call 74
                 (with_reducible refine HFM.out.mono ?_)
                 rintro e' w9 ⟨rfl, hb9⟩
                 have hd3 := below_cell hb9 (by simp; omega) hd3
                 have hd4 := below_cell hb9 (by simp; omega) hd4
                 have hd5 := below_cell hb9 (by simp; omega) hd5
                 replace hbox' := rowBelow hbox' hb9
                 replace hbl' := Cs.Below.trans' hbl' hb9 hbl'.size
                 obtain ⟨hd1, hd2⟩ := ntCells hbox'))
          go_wp2
          first
            | (go_ret
               refine ⟨?_, hbl'⟩
               have h1 : allFormed n 0 l = false := by
                 cases h0 : allFormed n 0 l
                 · rfl
                 · have h2 := allFormed_le n l (k + 1) h0
                   rw [HT.out, HF.out, Bool.and_false] at h2
                   cases h2
               rw [hV.out, h1]; rfl)
            | (go_roundw
               case rel =>
                 refine ⟨k + 1, by omega, by go_num, ?_, hbox', hbl'⟩
                 show _ = _
                 rw [HT.out, HK.out, HF.out]; rfl
               case measure => simp [intOf]; omega)
      · obtain rfl : k = l.length := by omega
        go_wp2
        go_ret
        refine ⟨?_, hbl⟩
        have h1 := HK.out
        rw [List.take_length] at h1
        rw [hV.out, h1]; rfl
  · have hv : vld ⟨n, l⟩ = false := by
      unfold vld; simp only; rw [decide_eq_false hb]; rfl
    rw [hv]
    clear hv hN
    have hcs : n < 0 ∨ (0 ≤ n ∧ 128 < n) ∨ (0 ≤ n ∧ n ≤ 128 ∧ l.length < 1) ∨ (0 ≤ n ∧ n ≤ 128 ∧ 1 ≤ l.length ∧ 65536 < l.length) := by omega
    clear hb
    rcases hcs with h1 | ⟨h1, h2⟩ | ⟨h1, h2, h3⟩ | ⟨h1, h2, h3, h4⟩
    all_goals
      go_enter Tryd.func49, Tryd.ntmps49
      go_wp2
      go_ret
      exact ⟨rfl, hbl⟩
end Go.Proofs.YtcgejdlfiemjaaaDoor
end
