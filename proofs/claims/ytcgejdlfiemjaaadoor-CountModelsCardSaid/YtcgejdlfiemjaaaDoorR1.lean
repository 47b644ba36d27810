/- The walks of the reference's decimal numbers: digit, form. The walks of the reference's decimal numbers: Add, Mul. -/
import Derived.Test.YtcgejdlfiemjaaaDoorN3
import Derived.Test.YtcgejdlfiemjaaaDoorM1
import Derived.Test.YtcgejdlfiemjaaaDoorB1
import Derived.Deep.CutRange
set_option linter.unusedSimpArgs false
set_option linter.unusedVariables false
/-! The walks of the reference's decimal numbers: digit, form. -/
section
open Go Go.RowKit Cs
namespace Go.Proofs.YtcgejdlfiemjaaaDoor
/-- digit: the digit of a number at a place. -/
theorem rdigit_any (w : World) (V i : Nat) (hV : decN V ≤ 1000000000) (hi : i ≤ 1000000000) : Calls Tryd.prog 94 #[.string (dec V), .int .i64 i] w fun e w' => e = .returned (.int .i64 (dg 10 V i)) ∧ w = w' := by
  have hs := dec_size V
  have hn := nd_decN V
  by_cases h : decN V ≤ i
  · have hd : dg 10 V i = 0 := dg_ge 10 V i (by decide) (by omega)
    rw [hd]
    have ht : ((dec V).size : Int) ≤ (i : Int) := by omega
    have HS := Lib.hid hs; clear hs hd hn
    go_enter Tryd.func94, Tryd.ntmps94
    go_wp2
    go_ret
    exact ⟨rfl, rfl⟩
  · have HG : Hid (∀ j (h : j < (dec V).size), ((dec V)[j]'h).toNat = 48 + dg 10 V (decN V - 1 - j)) := fun j h => dec_get V j h
    obtain ⟨s, hse⟩ : ∃ s, s = dec V := ⟨_, rfl⟩
    rw [← hse] at hs HG ⊢
    clear hse
    have hlt := dg10_lt V i
    obtain ⟨n, hn'⟩ : ∃ n, n = decN V := ⟨_, rfl⟩
    rw [← hn'] at hs HG h hV
    have hsz : s.size ≤ 1000000000 := by omega
    have ht : ¬ (s.size : Int) ≤ (i : Int) := by omega
    have hk1 : (0 : Int) ≤ (s.size : Int) - 1 - i := by omega
    have hk2 : (s.size : Int) - 1 - i < s.size := by omega
    have hk3 : s.size - 1 - i < s.size := by omega
    have hg := HG.out _ hk3
    rw [show n - 1 - (s.size - 1 - i) = i by omega] at hg
    have HK := Lib.hid hg; clear hg
    clear hs hn' hn
    go_enter Tryd.func94, Tryd.ntmps94
    go_wp2
    go_ret
    exact ⟨ret_int (by rw [HK.out]; omega), rfl⟩
/-- A digits' slice: the digits of V, the lowest first. -/
def dgF (V i : Nat) : Value := .int .i64 ((dg 10 V i : Nat) : Int)
theorem rmk_u8 (n : Nat) (h : n ≤ 1000000000) (u : World) : (Instr.makeSlice 75 (.int .i64 0) (.int .i64 (n : Int))).run Tryd.prog u =
    .ok (.slice (some ⟨u.heap.size, 0, none⟩) 0 n) (u.alloc (.cells (madeCells #[.int .u8 0] n) 5)) := by
  obtain ⟨i0, hi, hz0, hz1, hz2⟩ := info_parts info_u8
  have hr := run_make (P := Tryd.prog) u 75 5 i0 _ Tryd.underlying75 hi hz0 .i64 .i64 0 n (by omega) (by omega) (by rw [hz2]; omega) (by omega)
  simp only [Int.toNat_natCast, hz1, Nat.mul_one] at hr
  exact hr
theorem form_trim (V n m : Nat) (hV : nd 10 V ≤ n) (hm : m ≤ n) (h1 : 1 ≤ m) (hz : ∀ i, m ≤ i → i < n → dg 10 V i = 0) (h : m = 1 ∨ dg 10 V (m - 1) ≠ 0) : m = decN V := by
  have h2 : nd 10 V ≤ m := by
    rcases Nat.lt_or_ge m (nd 10 V) with hlt | hge
    · have hp : 0 < V := by
        rcases Nat.eq_zero_or_pos V with h' | h'
        · rw [h', nd_zero] at hlt; omega
        · exact h'
      have := dg_top 10 V (by decide) hp
      rw [hz _ (by omega) (by omega)] at this; omega
    · exact hge
  unfold decN
  rcases h with h | h
  · omega
  · rcases Nat.lt_or_ge (m - 1) (nd 10 V) with h3 | h3
    · omega
    · exact absurd (dg_ge 10 V _ (by decide) h3) h
/-- The digits of V from the top, as cells. -/
def topd (V m : Nat) : List Value := (List.range m).map fun t => .int .u8 ((48 + dg 10 V (decN V - 1 - t) : Nat) : Int)
theorem topd_succ (V m : Nat) : topd V (m + 1) = topd V m ++ [.int .u8 ((48 + dg 10 V (decN V - 1 - m) : Nat) : Int)] := by simp [topd, List.range_succ]
theorem topd_str (V : Nat) : strOfNums ((List.range (decN V)).map fun t => ((48 + dg 10 V (decN V - 1 - t) : Nat) : Int)) = dec V := by
  unfold strOfNums dec decL
  rw [List.map_map]
  rfl
theorem conv_dec (w : World) (g cap V base : Nat) (h : w.ownsRow base 5 1 (.slice (some ⟨g, 0, none⟩) (decN V) cap) (decN V) (topd V (decN V))) :
    (convert 75 9 (.slice (some ⟨g, 0, none⟩) (decN V) cap)).run Tryd.prog w = .ok (.string (dec V)) w := by
  rw [← topd_str V]
  refine run_convert_bytes_arg (P := Tryd.prog) w 75 5 Tryd.underlying75 Tryd.underlying5 g 0 (decN V) cap ((List.range (decN V)).map fun t => ((48 + dg 10 V (decN V - 1 - t) : Nat) : Int)) (by simp)
    (fun i hi => ?_) 9 Tryd.underlying9
  rw [Nat.zero_add]
  refine ownsCell h ?_
  simp [topd, hi]
set_option maxRecDepth 100000 in
set_option maxHeartbeats 400000 in
theorem form_pos (w : World) (A : Addr) (n cap V : Nat) (hn0 : 1 ≤ n) (hn : n ≤ 100000000) (hV : nd 10 V ≤ n) (hA : Rd w w.heap.size (some A) n (dgF V)) :
    Calls Tryd.prog 95 #[.slice (some A) n cap] w fun e w' => e = .returned (.string (dec V)) ∧ Below w.heap.size w w' := by
  obtain ⟨ti, hi, hz0, hz1, hz2⟩ := info_parts info_u8
  obtain ⟨b, o, hA1, hbl, hc⟩ := hA (by omega)
  cases hA1
  have HC := Lib.hid hc; clear hc hA
  have HV := Lib.hid hV; clear hV
  go_enter Tryd.func95, Tryd.ntmps95
  go_wp2
  go_loop [3] (fun t => ∃ m : Nat, 1 ≤ m ∧ m ≤ n ∧ t = .int .i64 m ∧ Hid (∀ i, m ≤ i → i < n → dg 10 V i = 0)) (fun t => (intOf t).toNat)
  case atStart => exact ⟨n, hn0, Nat.le_refl _, rfl, fun i h1 h2 => by omega⟩
  case round =>
    obtain ⟨m, hm1, hm, rfl, hz⟩ := hrel
    have hc := HC.out (m - 1) (by omega)
    unfold dgF at hc
    have fin := form_trim V n m HV.out hm hm1 hz.out
    have Hfin := Lib.hid fin; clear fin
    by_cases h : 1 < m ∧ dg 10 V (m - 1) = 0
    · obtain ⟨h1, h0⟩ := h
      have hb1 : ((dg 10 V (m - 1) : Int) == 0) = true := by simp [h0]
      have HB := Lib.hid h0; clear h0
      have i0 : (0 : Int) ≤ (m : Int) - 1 := by omega
      have i1 : (m : Int) - 1 < (n : Int) := by omega
      go_wp2
      go_round
      case rel =>
        refine ⟨m - 1, by omega, by omega, by go_num, fun i hi1 hi2 => ?_⟩
        rcases Nat.eq_or_lt_of_le hi1 with e | e
        · rw [← e]; exact HB.out
        · exact hz.out i (by omega) hi2
      case measure => simp [intOf]; omega
    · have hm' : m = decN V := Hfin.out (by omega)
      have hmk := rmk_u8 m (by omega)
      have HM := Lib.hid hm'; clear hm'
      have hd10 : dg 10 V (m - 1) < 10 := dg10_lt _ _
      have HD := Lib.hid hc; clear hc Hfin
      have hown : (w.alloc (.cells (madeCells #[.int .u8 0] m) 5)).ownsRow w.heap.size 5 1 (.slice (some ⟨w.heap.size, 0, none⟩) 0 m) 0 [] := World.ownsRow_made w _ m (Nat.le_refl _) (by unfold maxLen; omega) (by simp [madeCells])
      rcases Nat.lt_or_ge 1 m with h1 | h1
      all_goals (first
        | (have hb1 : ((dg 10 V (m - 1) : Int) == 0) = false := beq_eq_false_iff_ne.2 (by omega)
           have hc := HD.out
           have i0 : (0 : Int) ≤ (m : Int) - 1 := by omega
           have i1 : (m : Int) - 1 < (n : Int) := by omega
           clear h
           go_wp2)
        | (clear h; go_wp2))
      all_goals
        clear h1
        go_loopw [4, 5] (fun out i wr => ∃ k : Nat, k ≤ m ∧ i = .int .i64 ((m : Int) - 1 - k) ∧ wr.ownsRow w.heap.size 5 1 out k (topd V k) ∧ Below w.heap.size w wr) (fun _ i _ => (intOf i + 1).toNat)
        case atStart => exact ⟨0, by omega, by simp, hown, (Below.refl _ _).alloc (Nat.le_refl _) _⟩
        case round =>
          clear hown
          obtain ⟨k, hk, rfl, hown, hbel⟩ := hrel
          have hszw := hbel.size
          rcases Nat.lt_or_ge k m with hlt | hge
          · have hck := HC.out (m - 1 - k) (by omega)
            unfold dgF at hck
            have hck' := below_cell hbel hbl hck
            have j0 : (0 : Int) ≤ (m : Int) - 1 - k := by omega
            have j1 : (m : Int) - 1 - k < (n : Int) := by omega
            have hd10 : dg 10 V (m - 1 - k) < 10 := dg10_lt _ _
            have hlt0 : ∀ k, u4.ownBlock = some k → w.heap.size ≤ k := fun k hk => (hown.lt k hk).1
            clear hck
            go_wp2_with (at_builtin; go_loud (refine wpList_append_own _ rfl _ _ 75 rfl w.heap.size 5 ti (.int .u8 0) 1 1 Tryd.underlying75 hi hz0 hz1 hz2 rfl (by decide) _ _ _ rfl (hown.alloc _) ⟨wr.heap.size, 0, none⟩ 1 1 [.int .u8 (48 + (dg 10 V (m - 1 - k) : Int))] rfl rfl newOne oneInt (by unfold maxLen; omega) (by omega) (by simp; omega) ?_; intro v' w3 hown3 hgr3 _))
            have hbel3 := (hbel.alloc hbel.size _).grown hgr3 (by have := hbel.size; simp; omega) (fun k e => hlt0 k e)
            have e1 : (48 : Int) + (dg 10 V (m - 1 - k) : Int) = ((48 + dg 10 V (decN V - 1 - k) : Nat) : Int) := by rw [← HM.out]; simp
            rw [e1, ← topd_succ] at hown3
            go_wp2
            go_roundw
            case rel => exact ⟨k + 1, by omega, by go_num, hown3, hbel3⟩
            case measure => simp [intOf]; omega
          · obtain rfl : k = m := by omega
            obtain ⟨go', cp, rfl, hgo1, hgo2⟩ := ownsForm hown (by omega)
            have hcv : (convert 75 9 (.slice (some ⟨go', 0, none⟩) k cp)).run Tryd.prog wr = .ok (.string (dec V)) wr := by
              have h1 := HM.out
              rw [h1] at hown ⊢
              exact conv_dec wr go' cp V _ hown
            have hk0 : ((k : Int) == 0) = false := beq_eq_false_iff_ne.2 (by omega)
            go_wp2
            go_ret
            exact ⟨rfl, hbel⟩
end Go.Proofs.YtcgejdlfiemjaaaDoor
end
/-! The walks of the reference's decimal numbers: Add, Mul. -/
section
open Go Go.RowKit Cs
namespace Go.Proofs.YtcgejdlfiemjaaaDoor
theorem info_int : (Tryd.prog.info? 3).map (fun i => (i.zero, i.size, i.bytes)) = some (some (.int .i64 0), 1, 8) := by kernel_rfl
/-- The digits of V as ints, the lowest first. -/
def dgi (V n : Nat) : List Value := (List.range n).map (dgF V)
theorem dgi_succ (V n : Nat) : dgi V (n + 1) = dgi V n ++ [.int .i64 ((dg 10 V n : Nat) : Int)] := by simp [dgi, dgF, List.range_succ]
theorem dgi_get (V n j : Nat) (h : j < n) : (dgi V n)[j]? = some (dgF V j) := by simp [dgi, h]
set_option maxRecDepth 100000 in
set_option maxHeartbeats 400000 in
theorem radd_any (w : World) (a b : Nat) (ha : decN a ≤ 10000000) (hb : decN b ≤ 10000000) :
    Calls Tryd.prog 79 #[.string (dec a), .string (dec b)] w fun e w' => e = .returned (.string (dec (a + b))) ∧ Below w.heap.size w w' := by
  obtain ⟨ti, hi, hz0, hz1, hz2⟩ := info_parts info_int
  have hsa := dec_size a
  have hsb := dec_size b
  have hna := nd_decN a
  have hnb := nd_decN b
  have h1a := decN_one a
  have hda := fun W i hi => rdigit_any W a i (by omega) hi
  have hdb := fun W i hi => rdigit_any W b i (by omega) hi
  have hfm := fun W A n cap h0 h1 h2 h3 => form_pos W A n cap (a + b) h0 h1 h2 h3
  obtain ⟨sa, hsa'⟩ : ∃ s, s = dec a := ⟨_, rfl⟩
  obtain ⟨sb, hsb'⟩ : ∃ s, s = dec b := ⟨_, rfl⟩
  rw [← hsa'] at hsa hda ⊢
  rw [← hsb'] at hsb hdb ⊢
  clear hsa' hsb'
  have HDA := Lib.hid hda
  have HDB := Lib.hid hdb
  have HF := Lib.hid hfm
  clear hda hdb hfm
  have hza : sa.size ≤ 10000000 := by omega
  have hzb : sb.size ≤ 10000000 := by omega
  have hz1a : 1 ≤ sa.size := by omega
  have hna' : nd 10 a ≤ sa.size := by omega
  have hnb' : nd 10 b ≤ sb.size := by omega
  clear ha hb hsa hsb hna hnb h1a
  go_enter Tryd.func79, Tryd.ntmps79
  go_wp2
  go_loopw [5, 6, 7] (fun l c i wr => ∃ k : Nat, k ≤ max sa.size sb.size + 1 ∧ i = .int .i64 k ∧ c = .int .i64 (cry a b k) ∧ Hid (k = max sa.size sb.size + 1 → cry a b k = 0) ∧ wr.ownsRow w.heap.size 3 1 l k (dgi (a + b) k) ∧ Below w.heap.size w wr)
    (fun _ _ i _ => 20000002 - (intOf i).toNat)
  case atStart => exact ⟨0, by omega, rfl, by rw [cry_zero]; rfl, fun h => by omega, World.ownsRow_nil _ _ _ _, Below.refl _ _⟩
  case round =>
    obtain ⟨k, hk, rfl, rfl, hend, hown, hbel⟩ := hrel
    have hszw := hbel.size
    have hc1 := cry_le a b k
    have da := dg10_lt a k
    have db := dg10_lt b k
    have hdg := cry_dg a b k
    have hcs := cry_succ a b k
    have HDG := Lib.hid hdg
    have HCS := Lib.hid hcs
    clear hdg hcs
    have hlt0 : ∀ k, u5.ownBlock = some k → w.heap.size ≤ k := fun k hk => (hown.lt k hk).1
    by_cases hgo : k < sa.size ∨ k < sb.size ∨ 0 < cry a b k
    · have hkm : k ≤ max sa.size sb.size := by
        rcases Nat.lt_or_ge (max sa.size sb.size) k with h | h
        · have := hend.out (by omega); omega
        · exact h
      have hend' : Hid (k + 1 = max sa.size sb.size + 1 → cry a b (k + 1) = 0) := fun h => cry_ge a b k (by omega) (by omega)
      have X1 : Hid (((dg 10 a k : Int) + (dg 10 b k : Int) + (cry a b k : Int)) % 10 = ((dg 10 (a + b) k : Nat) : Int)) := by
        have := HDG.out; show _ = _; omega
      have X2 : Hid (((dg 10 a k : Int) + (dg 10 b k : Int) + (cry a b k : Int)) / 10 = ((cry a b (k + 1) : Nat) : Int)) := by
        have := HCS.out; show _ = _; omega
      rcases Nat.lt_or_ge k sa.size with h1 | h1
      all_goals (try rcases Nat.lt_or_ge k sb.size with h2 | h2)
      all_goals (try (have h3 : 0 < cry a b k := by omega))
      all_goals clear hgo
      all_goals
        go_wp2_with (first
          | (go_at_call 94; (with_reducible refine (HDA.out _ k (by omega)).mono ?_); rintro e w' ⟨rfl, rfl⟩)
          | (go_at_call 94; (with_reducible refine (HDB.out _ k (by omega)).mono ?_); rintro e w' ⟨rfl, rfl⟩)
          | (at_builtin; go_loud (refine wpList_append_own _ rfl _ _ 50 rfl w.heap.size 3 ti (.int .i64 0) 1 8 Tryd.underlying50 hi hz0 hz1 hz2 rfl (by decide) _ _ _ rfl (hown.alloc _) ⟨wr.heap.size, 0, none⟩ 1 1 [.int .i64 (((dg 10 a k : Int) + (dg 10 b k : Int) + (cry a b k : Int)) % 10)] rfl rfl newOne oneInt (by unfold maxLen; omega) (by omega) (by simp; omega) ?_; intro v' w3 hown3 hgr3 _)))
        have hbel3 := (hbel.alloc hbel.size _).grown hgr3 (by simp; omega) (fun k e => hlt0 k e)
        rw [X1.out, ← dgi_succ] at hown3
        go_roundw
        case rel => exact ⟨k + 1, by omega, by go_num, by rw [X2.out], hend', hown3, hbel3⟩
        case measure => simp [intOf]; omega
    · have h1 : sa.size ≤ k := by omega
      have h2 : sb.size ≤ k := by omega
      have h3 : cry a b k = 0 := by omega
      have hnd : nd 10 (a + b) ≤ k := cry_end a b k (by omega) (by omega) h3
      have h4 : ¬ 0 < (cry a b k : Int) := by omega
      obtain ⟨go', cp, rfl, hgo1, hgo2⟩ := ownsForm hown (by omega)
      have hrd : Rd wr wr.heap.size (some ⟨go', 0, none⟩) k (dgF (a + b)) := Rd.of_own hown fun i hi => dgi_get _ _ _ hi
      have HR := Lib.hid hrd
      have hk2 : k ≤ 10000001 := by omega
      have hk1 : 1 ≤ k := by omega
      clear hgo h3 hrd hown
      go_wp2_with (go_at_call 95; (with_reducible refine (HF.out _ _ k cp hk1 (by omega) hnd HR.out).mono ?_); rintro e w' ⟨rfl, hb9⟩)
      go_ret
      exact ⟨rfl, Cs.Below.trans' hbel hb9 hszw⟩
end Go.Proofs.YtcgejdlfiemjaaaDoor
end
