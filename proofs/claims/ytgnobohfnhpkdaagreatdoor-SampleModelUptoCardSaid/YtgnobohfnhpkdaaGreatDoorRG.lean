/- The truth of nets, as plain data. The walks of the reference's Holds, Truth and Eval. The walks of the reference's Eval, Nth and Apart2. -/
import Derived.Test.YtgnobohfnhpkdaaGreatDoorRC
import Derived.Test.YtgnobohfnhpkdaaGreatDoorQ2
import Derived.Deep.RegionWith
set_option linter.unusedSimpArgs false
set_option linter.unusedVariables false
section
open Go Go.RowKit Cs
namespace Go.Proofs.YtgnobohfnhpkdaaGreatDoor
theorem info_bool : (Tryz.prog.info? 4).map (fun i => (i.zero, i.size, i.bytes)) = some (some (.bool false), 1, 1) := by kernel_rfl
set_option maxRecDepth 100000 in
theorem rholds_any (w : World) (s : Nat) (l : Int) (h1 : -9223372036854775808 ≤ l) (h2 : l ≤ 9223372036854775807) : Calls Tryz.prog 69 #[setV s, .int .i64 l] w fun e w' => e = .returned (.bool (hld s l)) ∧ Below w.heap.size w w' := by
  have hva := fun W => rvar_any W l h1 h2
  have hlv := litVar_le l
  have hsb := pairNew w (.int .u64 (lo s : Int)) (.int .u64 (hi s : Int)) 30 _ rfl
  have c1 := hsb.cell (i := 0) (by omega)
  have c2 := hsb.cell (i := 1) (by omega)
  have hbl : Below w.heap.size w (w.alloc (.cells #[.int .u64 (lo s : Int), .int .u64 (hi s : Int)] 30)) := (Below.refl _ _).alloc (Nat.le_refl _) _
  have hv : hld s l = (decide (litVar l ≠ 0) && (s.testBit ((litVar l).toNat - 1) == decide (0 < l))) := rfl
  obtain ⟨H, hH⟩ : ∃ b, hld s l = b := ⟨_, rfl⟩
  obtain ⟨v, hv'⟩ : ∃ v, litVar l = v := ⟨_, rfl⟩
  rw [hH] at hv ⊢
  rw [hv'] at hv hlv
  simp only [hv'] at hva
  have HVA := Lib.hid hva
  clear hva hH hv' hsb
  by_cases h0 : v = 0
  · subst h0
    have HV : Hid (H = false) := Lib.hid (by rw [hv]; rfl)
    clear hv
    go_enter Tryz.func69, Tryz.ntmps69
    go_wp2_with (go_at_call 115; (with_reducible refine (HVA.out _).mono ?_); rintro e w6 ⟨rfl, rfl⟩)
    go_ret
    exact ⟨by rw [HV.out]; rfl, hbl⟩
  · have hin := fun W => rin_any W s v.toNat (by omega) (by omega)
    rw [show ((v.toNat : Nat) : Int) = v by omega] at hin
    obtain ⟨T, hT⟩ : ∃ b, s.testBit (v.toNat - 1) = b := ⟨_, rfl⟩
    rw [hT] at hv
    simp only [hT] at hin
    have HIN := Lib.hid hin
    have HV : Hid (H = (T == decide (0 < l))) := Lib.hid (by rw [hv, decide_eq_true h0, Bool.true_and])
    have hp : 0 < v := by omega
    clear hin hT hv h0
    go_enter Tryz.func69, Tryz.ntmps69
    go_wp2_with (first
      | (go_at_call 115; (with_reducible refine (HVA.out _).mono ?_); rintro e w6 ⟨rfl, rfl⟩)
      | (go_at_call 66; (with_reducible refine (HIN.out _).mono ?_); rintro e w7 ⟨rfl, hb7⟩
         have hbl7 := Cs.Below.trans' hbl hb7 hbl.size))
    go_ret
    exact ⟨by rw [HV.out]; rfl, hbl7⟩
def BoolsR (w : World) (n : Nat) (L : List Bool) (e : Ending) (w' : World) : Prop := ∃ g cap, e = .returned (.slice (some ⟨g, 0, none⟩) n cap) ∧ w.heap.size ≤ g ∧ Rd w' w'.heap.size (some ⟨g, 0, none⟩) n (boolF L) ∧ Below w.heap.size w w'
structure TR (w : World) (n : Int) (l : List Nd) (A : Option Addr) (c s : Nat) (out : Value) (k : Nat) (L : List Bool) (wr : World) : Prop where
  own : wr.ownsRow (w.heap.size + 1 + 1) 4 1 out k (bools L)
  net : wr.rowIs w.heap.size 24 2 (ntF ⟨n, l⟩ A c)
  set : wr.rowIs (w.heap.size + 1) 30 2 (setsF [s])
  bl : Below w.heap.size w wr
section
variable {w : World} {n : Int} {l : List Nd} {A : Option Addr} {c s : Nat} {out : Value} {k : Nat} {L : List Bool} {wr w' : World}
theorem TR.below (h : TR w n l A c s out k L wr) (hb : Below wr.heap.size wr w') : TR w n l A c s out k L w' := ⟨ownsBelow h.own hb, rowBelow h.net hb, rowBelow h.set hb, Cs.Below.trans' h.bl hb h.bl.size⟩
theorem TR.next (h : TR w n l A c s out k L wr) {b : Bool} {v' : Value} (hown : w'.ownsRow (w.heap.size + 1 + 1) 4 1 v' (k + 1) (bools L ++ [.bool b])) (hg : wr.grownBy w' out.ownBlock) : TR w n l A c s v' (k + 1) (L ++ [b]) w' :=
  ⟨by rw [bools_snoc]; exact hown, rowGrown h.net hg fun e => by have := (h.own.lt _ e.symm).1; omega, rowGrown h.set hg fun e => by have := (h.own.lt _ e.symm).1; omega, h.bl.grown hg h.bl.size fun g e => by have := (h.own.lt _ e).1; omega⟩
end
set_option maxRecDepth 100000 in
set_option maxHeartbeats 4000000 in
theorem rtruth_any (w : World) (N : Nt) (A : Option Addr) (c s : Nat) (hN : NtAt w w.heap.size A N.l) (hv : vld N = true) :
    Calls Tryz.prog 37 #[ntV N A c, setV s] w (BoolsR w N.l.length (truth s N.l)) := by
  obtain ⟨hn0, hn1, hl0, hl1⟩ := vld_bounds hv
  obtain ⟨ti, hti, ht0, ht1, ht2⟩ := info_parts info_bool
  have hfm := fun k hk => vld_formed hv k hk
  have hlen := truth_len s N.l
  obtain ⟨n, l⟩ := N
  simp only at hN hn0 hn1 hl0 hl1 hfm hlen
  have HF := Lib.hid hfm
  have HLEN := Lib.hid hlen
  clear hfm hv hlen
  have hbox := (ntNew w ⟨n, l⟩ A c 24 _ rfl).alloc (.cells #[.int .u64 (lo s : Int), .int .u64 (hi s : Int)] 30)
  have hsb : ((w.alloc (.cells #[.int .i64 n, .slice A l.length c] 24)).alloc (.cells #[.int .u64 (lo s : Int), .int .u64 (hi s : Int)] 30)).rowIs (w.heap.size + 1) 30 2 (setsF [s]) := (pairNew _ _ _ _ _ (by simp)).congr fun i hi => by
    have : i = 0 ∨ i = 1 := by omega
    rcases this with rfl | rfl <;> rfl
  have hbl : Below w.heap.size w ((w.alloc (.cells #[.int .i64 n, .slice A l.length c] 24)).alloc (.cells #[.int .u64 (lo s : Int), .int .u64 (hi s : Int)] 30)) := ((Below.refl _ _).alloc (Nat.le_refl _) _).alloc (by simp) _
  have hE0 : TR w n l A c s (.slice none 0 0) 0 [] _ := ⟨World.ownsRow_nil _ _ _ _, hbox, hsb, hbl⟩
  have HE0 := Lib.hid hE0
  clear hbox hsb hbl hE0
  go_enter Tryz.func37, Tryz.ntmps37
  go_wp2
  go_loopw [5, 6] (fun out t wr => ∃ k : Nat, k ≤ l.length ∧ t = .int .i64 k ∧ TR w n l A c s out k (truth s (l.take k)) wr) (fun _ t _ => l.length - (intOf t).toNat)
  case atStart => exact ⟨0, by omega, rfl, HE0.out⟩
  case round =>
    clear HE0
    obtain ⟨k, hk, rfl, hE⟩ := hrel
    obtain ⟨hc1, hc2⟩ := ntCells hE.net
    have hg := hE.net.lt
    by_cases hlt : k < l.length
    · obtain ⟨b, o, rfl, hbB, hcs⟩ := hN (by omega)
      have hnd := hcs k hlt
      clear hcs
      have ht := scan_take (evStep s) l k hlt
      have hfk := HF.out k hlt
      obtain ⟨x, hx⟩ : ∃ x, l[k] = x := ⟨_, rfl⟩
      rw [hx] at hnd ht hfk
      have hks := formed_kinds hfk
      have hin := formed_ins hfk
      have HIN := Lib.hid hin
      have HT := Lib.hid ht
      clear hin ht hx hfk
      obtain ⟨hk1, hk2, ⟨A', c', hk3, hrd⟩, hr1, hr2, hr3, hr4⟩ := hnd
      replace hk1 := below_cell hE.bl hbB hk1
      replace hk2 := below_cell hE.bl hbB hk2
      replace hk3 := below_cell hE.bl hbB hk3
      have HRD := Lib.hid hrd; clear hrd
      obtain ⟨L, hL⟩ : ∃ L, truth s (l.take k) = L := ⟨_, rfl⟩
      have hLl : L.length = k := by rw [← hL]; exact scan_len _ _ _ (by omega)
      rw [hL] at hE
      change Hid (truth s (l.take (k + 1)) = truth s (l.take k) ++ [evStep s (truth s (l.take k)) x]) at HT
      rw [hL] at HT
      have HLL := Lib.hid hLl
      clear hL hLl
      obtain ⟨hl1', hl2'⟩ := hr2
      have hho := fun W => rholds_any W s x.lit hl1' hl2'
      obtain ⟨H, hH⟩ : ∃ b, hld s x.lit = b := ⟨_, rfl⟩
      simp only [hH] at hho
      have HHO := Lib.hid hho
      have HH := Lib.hid hH
      clear hho hH
      have hi0 : (0 : Int) ≤ (k : Int) := by omega
      have hi1 : (k : Int) < (l.length : Int) := by omega
      have hal : Below wr.heap.size wr (wr.alloc (.cells #[.int .i64 x.kind, .int .i64 x.lit, .slice A' x.ins.length c'] 56)) := (Below.refl _ _).alloc (Nat.le_refl _) _
      have hE1 := hE.below hal
      have hnr := ndNew wr x A' c' 56 _ rfl
      have hlaid : ∀ (W : World) (a1 : Int), W = wr.alloc (.cells #[.int .i64 a1, .int .i64 x.lit, .slice A' x.ins.length c'] 56) → a1 = x.kind →
          TR w n l (some ⟨b, o, none⟩) c s u5 k L W ∧ W.rowIs wr.heap.size 56 3 (ndF x A' c') := fun W a1 hW e1 => by
        subst hW; subst e1; exact ⟨hE1, hnr⟩
      have hbx := hE.set
      have hbz := hbx.lt
      obtain ⟨hs1, hs2, _, _⟩ := setPair hbx
      have HLAID := Lib.hid hlaid
      have HE1 := Lib.hid hE1
      clear hlaid hnr hE1 hE hal hbx
      have hst : ∀ kd, x.kind = kd → evStart s x = (decide (kd = 1) || decide (kd = 3) || (decide (kd = 2) && H)) := fun kd h => by unfold evStart; rw [h, HH.out]
      obtain ⟨kd, hkd⟩ : ∃ kd, kd = x.kind := ⟨_, rfl⟩
      rw [← hkd] at hks hk1
      have HST := Lib.hid (hst kd hkd.symm)
      have HKD := Lib.hid hkd
      have hr1' : -9223372036854775808 ≤ x.kind ∧ x.kind ≤ 9223372036854775807 := hr1
      clear hst hkd hr1 hr1'
      obtain ⟨W0, rfl⟩ : ∃ W0, W0 = wr := ⟨wr, rfl⟩
      rcases hks with rfl | rfl | rfl | rfl | rfl
      all_goals
        go_wp2_with (go_at_call 69; (with_reducible refine (HHO.out _).mono ?_); rintro e w6 ⟨rfl, hb6⟩)
        first
          | (obtain ⟨q1, q2⟩ := HLAID.out _ _ rfl HKD.out
             replace q1 := q1.below hb6
             replace q2 := rowBelow q2 hb6)
          | (obtain ⟨q1, q2⟩ := HLAID.out _ _ rfl HKD.out)
        clear HLAID HE1 hs1 hs2
        go_loopw [8, 9] (fun bv t wq => ∃ (m : Nat) (z : Bool), m ≤ x.ins.length ∧ t = .int .i64 m ∧ bv = .bool z ∧ Hid ((x.ins.take m).foldl (evIn L x) (evStart s x) = z) ∧ TR w n l (some ⟨b, o, none⟩) c s u5 k L wq ∧ wq.rowIs W0.heap.size 56 3 (ndF x A' c')) (fun _ t _ => x.ins.length - (intOf t).toNat)
        case atStart => exact ⟨0, _, by omega, rfl, rfl, HST.out, q1, q2⟩
        case round =>
          clear q1 q2
          obtain ⟨m, z, hm, rfl, rfl, HP, hE, hnr⟩ := hrel
          obtain ⟨hc1, hc2⟩ := ntCells hE.net
          obtain ⟨hd1, hd2, hd3⟩ := ndCells hnr
          rw [← HKD.out] at hd1
          by_cases hmlt : m < x.ins.length
          · obtain ⟨b', o', rfl, hbB', hcs⟩ := HRD.out (by omega)
            have hc := below_cell hE.bl hbB' (hcs m hmlt)
            clear hcs
            unfold intF at hc
            obtain ⟨j, hj1, hj2⟩ := HIN.out m hmlt
            rw [hj1] at hc
            have htk : x.ins.take (m + 1) = x.ins.take m ++ [(j : Int)] := by
              rw [List.take_succ_eq_append_getElem hmlt]
              congr 2
              rw [← hj1]; simp [List.getD, hmlt]
            obtain ⟨y, hy⟩ : ∃ y, L.getD j false = y := ⟨_, rfl⟩
            have hfo : (x.ins.take (m + 1)).foldl (evIn L x) (evStart s x) = evIn L x z (j : Int) := by
              rw [htk, List.foldl_append, HP.out]; rfl
            have hev : evIn L x z (j : Int) = if x.kind = 3 then z && y else z || y := by unfold evIn; rw [Int.toNat_natCast, hy]
            rw [hev, ← HKD.out] at hfo
            have HFO := Lib.hid hfo
            obtain ⟨gr, cr, rfl, hgr1, hgr2⟩ := ownsForm hE.own (by omega)
            have ho1 : wr.cell? ⟨gr, j, none⟩ = some (.bool y) := by
              rw [hE.own.cellAt _ (by omega), bools_get L _ (by rw [HLL.out]; omega), hy]
            have HE := Lib.hid hE
            have HNR := Lib.hid hnr
            have j0 : (0 : Int) ≤ (j : Int) := by omega
            have j1 : (j : Int) < (k : Int) := by omega
            have m0 : (0 : Int) ≤ (m : Int) := by omega
            have m1 : (m : Int) < (x.ins.length : Int) := by omega
            clear hj1 htk hy hfo hev hE hnr
            cases z
            all_goals
              go_wp2
              go_roundw
              case rel => exact ⟨m + 1, _, by omega, by go_num, rfl, HFO.out, HE.out, HNR.out⟩
              case measure => simp [intOf]; omega
          · obtain rfl : m = x.ins.length := by omega
            have hst : evStep s L x = z := by
              have := HP.out
              rw [List.take_length] at this
              exact this
            have hnx := HT.out
            rw [hst] at hnx
            have HNX := Lib.hid hnx
            have hle := HLL.out
            have hzq := hE.net.lt
            have hzs := hE.set.lt
            have hEa := hE.below ((Below.refl _ _).alloc (Nat.le_refl _) (.cells #[.bool z] 4))
            have HEA := Lib.hid hEa
            have hownA := hEa.own
            clear hst hnx hE hEa HP
            go_wp2_with (at_builtin; refine wpList_append_own _ rfl _ _ 70 rfl (w.heap.size + 1 + 1) 4 ti (.bool false) 1 1 Tryz.underlying70 hti ht0 ht1 ht2 rfl (by decide) _ _ _ rfl hownA ⟨wr.heap.size, 0, none⟩ 1 1 [.bool z] rfl rfl newOne oneBool (by unfold maxLen; omega) (by omega) (by simp; omega) ?_; intro v' w3 hown3 hgr3 _)
            have hE3 := HEA.out.next hown3 hgr3
            rw [← HNX.out] at hE3
            go_wp2
            go_roundw
            case rel => exact ⟨k + 1, by omega, by go_num, hE3⟩
            case measure => simp [intOf]; omega
    · obtain rfl : k = l.length := by omega
      rw [List.take_length] at hE
      have hi1 : ¬ ((l.length : Int) < (l.length : Int)) := by omega
      obtain ⟨g, cap, rfl, hg1, hg2⟩ := ownsForm hE.own (by omega)
      have hrd : Rd wr wr.heap.size (some ⟨g, 0, none⟩) l.length (boolF (truth s l)) := Rd.of_own hE.own fun i hi => bools_get _ i (by rw [HLEN.out]; omega)
      have hb := hE.bl
      clear hE hlt
      go_wp2
      go_ret
      exact ⟨g, cap, rfl, by omega, hrd, hb⟩
end Go.Proofs.YtgnobohfnhpkdaaGreatDoor
end
section
open Go Go.RowKit Cs
namespace Cs
def nthR (n k : Nat) : Nat → Nat
  | 0 => 0
  | m + 1 => if k.testBit (n - 1 - m) then nthR n k m ||| 2 ^ m else nthR n k m
theorem nthR_bit (n k i : Nat) : ∀ m, (nthR n k m).testBit i = (decide (i < m) && k.testBit (n - 1 - i))
  | 0 => by simp [nthR]
  | m + 1 => by
    have ih := nthR_bit n k i m
    unfold nthR
    by_cases hb : k.testBit (n - 1 - m) = true
    · rw [if_pos hb, Nat.testBit_or, ih, Nat.testBit_two_pow]
      by_cases h : m = i
      · subst h; simp [hb]
      · by_cases h2 : i < m
        · simp [h, h2, show i < m + 1 by omega]
        · simp [h, h2, show ¬ i < m + 1 by omega]
    · rw [if_neg hb, ih]
      by_cases h : m = i
      · subst h; simp [hb]
      · by_cases h2 : i < m
        · simp [h2, show i < m + 1 by omega]
        · simp [h2, show ¬ i < m + 1 by omega]
theorem nthR_lt (n k m : Nat) : nthR n k m < 2 ^ m := by
  refine Nat.lt_pow_two_of_testBit _ fun i hi => ?_
  rw [nthR_bit]; simp; omega
theorem nthR_back (n s : Nat) (h : s < 2 ^ n) : nthR n (nthR n s n) n = s := by
  apply Nat.eq_of_testBit_eq
  intro i
  rw [nthR_bit, nthR_bit]
  by_cases hi : i < n
  · rw [show n - 1 - (n - 1 - i) = i by omega]; simp [hi, show n - 1 - i < n by omega]
  · simp [hi]
    exact Nat.testBit_lt_two_pow (Nat.lt_of_lt_of_le h (Nat.pow_le_pow_right (n := 2) (by decide) (show n ≤ i by omega)))
def ap2 (N : Nt) (n : Nat) : Bool := (List.range (2 ^ n)).all fun k => detAt N (nthR n k n)
theorem ap2_det {N : Nt} {n : Nat} (h : ap2 N n = true) (s : Nat) (hs : s < 2 ^ n) : detAt N s = true := by
  unfold ap2 at h
  rw [List.all_eq_true] at h
  have := h (nthR n s n) (List.mem_range.2 (nthR_lt n s n))
  rwa [nthR_back n s hs] at this
theorem ap2_no {N : Nt} {n k : Nat} (hk : k < 2 ^ n) (h : detAt N (nthR n k n) = false) : ap2 N n = false := by
  cases ha : ap2 N n
  · rfl
  · unfold ap2 at ha
    rw [List.all_eq_true] at ha
    rw [ha k (List.mem_range.2 hk)] at h; cases h
theorem ap2_yes {N : Nt} {n : Nat} (h : ∀ k, k < 2 ^ n → detAt N (nthR n k n) = true) : ap2 N n = true := by
  unfold ap2
  rw [List.all_eq_true]
  exact fun k hk => h k (List.mem_range.1 hk)
end Cs
namespace Go.Proofs.YtgnobohfnhpkdaaGreatDoor
set_option maxRecDepth 100000 in
set_option maxHeartbeats 2000000 in
theorem reval_any (w : World) (N : Nt) (A : Option Addr) (c s : Nat) (hN : NtAt w w.heap.size A N.l) (hv : vld N = true) :
    Calls Tryz.prog 19 #[ntV N A c, setV s] w fun e w' => e = .returned (.bool (evB N s)) ∧ Below w.heap.size w w' := by
  obtain ⟨hn0, hn1, hl0, hl1⟩ := vld_bounds hv
  have hck := fun W h => rnvalid_any W N A c (by omega) h
  simp only [hv] at hck
  have htr := fun W h => rtruth_any W N A c s h hv
  have hev : (truth s N.l).getD (N.l.length - 1) false = evB N s := rfl
  obtain ⟨E, hE⟩ : ∃ b, evB N s = b := ⟨_, rfl⟩
  rw [hE] at hev ⊢
  obtain ⟨T, hT⟩ : ∃ b, truth s N.l = b := ⟨_, rfl⟩
  rw [hT] at hev
  simp only [hT] at htr
  obtain ⟨n, l⟩ := N
  simp only at hN hn0 hn1 hl0 hl1 hev
  have HCK := Lib.hid hck
  have HTR := Lib.hid htr
  have HEV := Lib.hid hev
  clear hck htr hev hE hT hv
  have hbox := (ntNew w ⟨n, l⟩ A c 24 _ rfl).alloc (.cells #[.int .u64 (lo s : Int), .int .u64 (hi s : Int)] 30)
  have hsb : ((w.alloc (.cells #[.int .i64 n, .slice A l.length c] 24)).alloc (.cells #[.int .u64 (lo s : Int), .int .u64 (hi s : Int)] 30)).rowIs (w.heap.size + 1) 30 2 (setsF [s]) := (pairNew _ _ _ _ _ (by simp)).congr fun i hi => by
    have : i = 0 ∨ i = 1 := by omega
    rcases this with rfl | rfl <;> rfl
  have hbl : Below w.heap.size w ((w.alloc (.cells #[.int .i64 n, .slice A l.length c] 24)).alloc (.cells #[.int .u64 (lo s : Int), .int .u64 (hi s : Int)] 30)) := ((Below.refl _ _).alloc (Nat.le_refl _) _).alloc (by simp) _
  have i0 : (0 : Int) ≤ (l.length : Int) - 1 := by omega
  have i1 : (l.length : Int) - 1 < (l.length : Int) := by omega
  have hwr : IntKind.i64.wrap ((l.length : Int) - 1) = (l.length : Int) - 1 := by rw [IntKind.wrap_i64]; omega
  have htn : ((l.length : Int) - 1).toNat = l.length - 1 := by omega
  go_enter Tryz.func19, Tryz.ntmps19
  go_wp2_with fail
  replace hbox := hbox.drew
  replace hsb := hsb.drew
  replace hbl : Below w.heap.size w (World.drew _) := belowDrewN hbl 1
  obtain ⟨c1, c2⟩ := ntCells hbox
  obtain ⟨c3, c4, _, _⟩ := setPair hsb
  go_region_with
    (first
      | (go_simp
         go_at_call 34
         (with_reducible refine (HCK.out _ ((hN.below hbl).more hbl.size)).mono ?_)
         rintro e w5 ⟨rfl, hb5⟩
         replace hbox := rowBelow hbox hb5
         replace hsb := rowBelow hsb hb5
         replace hbl := Cs.Below.trans' hbl hb5 hbl.size
         obtain ⟨c1, c2⟩ := ntCells hbox
         obtain ⟨c3, c4, _, _⟩ := setPair hsb)
      | (go_simp
         go_at_call 37
         (with_reducible refine (HTR.out _ ((hN.below hbl).more hbl.size)).mono ?_)
         rintro e w6 ⟨g6, d6, rfl, hg6, hr6, hb6⟩
         replace hbox := rowBelow hbox hb6
         replace hsb := rowBelow hsb hb6
         replace hbl := Cs.Below.trans' hbl hb6 hbl.size
         have hc6 : w6.cell? ⟨g6, l.length - 1, none⟩ = some (.bool E) := by
           obtain ⟨b, o, e, _, hcs⟩ := hr6 (by omega)
           injection e with e
           injection e with e1 e2 _
           subst e1; subst e2
           have h1 := hcs (l.length - 1) (by omega)
           rw [Nat.zero_add] at h1
           rw [h1]; unfold boolF; rw [HEV.out]
         clear hr6
         obtain ⟨c1, c2⟩ := ntCells hbox
         obtain ⟨c3, c4, _, _⟩ := setPair hsb))
  all_goals
    try go_wp2
    go_ret
    exact ⟨rfl, hbl⟩
set_option maxRecDepth 100000 in
set_option maxHeartbeats 2000000 in
theorem rnth_any (w : World) (n k : Nat) (hn : n ≤ 20) (hk : k < 1048576) : Calls Tryz.prog 38 #[.int .i64 n, .int .i64 k] w fun e w' => e = .returned (setV (nthR n k n)) ∧ Below w.heap.size w w' := by
  have h0 : (w.alloc (.cells #[.int .u64 0, .int .u64 0] 30)).rowIs w.heap.size 30 2 (setsF [0]) := (pairNew w _ _ _ _ rfl).congr fun i hi => by
    have : i = 0 ∨ i = 1 := by omega
    rcases this with rfl | rfl <;> rfl
  have h1 : ((w.alloc (.cells #[.int .u64 0, .int .u64 0] 30)).alloc (.cells #[.int .u64 0, .int .u64 0] 30)).rowIs (w.heap.size + 1) 30 2 (setsF [0]) := (pairNew _ _ _ _ _ (by simp)).congr fun i hi => by
    have : i = 0 ∨ i = 1 := by omega
    rcases this with rfl | rfl <;> rfl
  have hbl : Below w.heap.size w ((w.alloc (.cells #[.int .u64 0, .int .u64 0] 30)).alloc (.cells #[.int .u64 0, .int .u64 0] 30)) := ((Below.refl _ _).alloc (Nat.le_refl _) _).alloc (by simp) _
  go_enter Tryz.func38, Tryz.ntmps38
  go_wp2
  go_loopw [6] (fun t wr => ∃ m : Nat, m ≤ n ∧ t = .int .i64 ((m : Int) + 1) ∧ wr.rowIs (w.heap.size + 1) 30 2 (setsF [nthR n k m]) ∧ wr.rowIs w.heap.size 30 2 (setsF [0]) ∧ Below w.heap.size w wr) (fun t _ => n + 1 - (intOf t).toNat)
  case atStart => exact ⟨0, by omega, rfl, h1, h0.alloc _, hbl⟩
  case round =>
    clear h0 h1 hbl
    obtain ⟨m, hm, rfl, hs, hr, hbl⟩ := hrel
    obtain ⟨hs1, hs2, hs3, hs4⟩ := setPair hs
    by_cases hlt : m < n
    · have hb := bit_int k (n - 1 - m)
      have hsuc : nthR n k (m + 1) = if k.testBit (n - 1 - m) then nthR n k m ||| 2 ^ m else nthR n k m := rfl
      obtain ⟨B, hB⟩ : ∃ b, k.testBit (n - 1 - m) = b := ⟨_, rfl⟩
      obtain ⟨s, hs0⟩ : ∃ s, nthR n k m = s := ⟨_, rfl⟩
      rw [hB] at hb
      rw [hB, hs0] at hsuc
      rw [hs0] at hs hs1 hs2
      have HSUC := Lib.hid hsuc
      clear hsuc hB hs0
      have e1 : IntKind.i64.wrap ((n : Int) - ((m : Int) + 1)) = ((n - 1 - m : Nat) : Int) := by rw [IntKind.wrap_i64]; omega
      have e1b : ((n : Int) - ((m : Int) + 1)) = ((n - 1 - m : Nat) : Int) := by omega
      have e0 : (m : Int) + 1 - 1 = (m : Int) := by omega
      obtain ⟨d, hd⟩ : ∃ d, n - 1 - m = d := ⟨_, rfl⟩
      rw [hd] at hb e1 e1b
      have hd20 : d < 64 := by omega
      clear hd
      have i1 : (m : Int) + 1 ≤ (n : Int) := by omega
      have e4 := wrap_two m (by omega)
      have e5 := u64_or_nat (lo s) (2 ^ m) (lo_lt s) (Nat.pow_lt_pow_right (by decide) (show m < 64 by omega))
      simp only [Int.natCast_pow, Int.cast_ofNat_Int] at e5
      have e6 : lo (s ||| 2 ^ m) = lo s ||| 2 ^ m := by rw [lo_or, lo_two, if_pos (by omega)]
      have e7 : hi (s ||| 2 ^ m) = hi s := by rw [hi_or, hi_two m (by omega), if_pos (by omega)]; simp
      have hp := setsPut1 hs e7
      rw [e6] at hp
      have HPP := Lib.hid hp
      have HS := Lib.hid hs
      clear e6 e7 hp hs
      cases B
      · go_wp2
        go_roundw
        case rel => exact ⟨m + 1, by omega, by go_num, by rw [HSUC.out]; exact HS.out, hr, hbl⟩
        case measure => simp [intOf]; omega
      · go_wp2
        go_roundw
        case rel => exact ⟨m + 1, by omega, by go_num, by rw [HSUC.out]; exact HPP.out, hr.setOther (by simp) _, hbl.setCell (by simp) _⟩
        case measure => simp [intOf]; omega
    · obtain rfl : m = n := by omega
      have hrs := setPair hr
      obtain ⟨hr1, hr2, hr3, hr4⟩ := hrs
      have hi1 : ¬ ((m : Int) + 1 ≤ (m : Int)) := by omega
      have hfin := ((hr.set 0 (.int .u64 (lo (nthR m k m) : Int))).set 1 (.int .u64 (hi (nthR m k m) : Int)))
      have HFN := Lib.hid hfin
      clear hfin hlt
      go_wp2
      refine ret_set rfl (nthR m k m) rfl HFN.out rfl rfl rfl ⟨rfl, (hbl.setCell (by simp) _).setCell (by simp) _⟩
theorem cnt_take (f : Int → Bool) (ks : List Int) (m : Nat) (h : m < ks.length) : (ks.take (m + 1)).countP f = (ks.take m).countP f + if f (ks.getD m 0) then 1 else 0 := by
  rw [List.take_succ_eq_append_getElem h, List.countP_append]
  have e : ks.getD m 0 = ks[m] := by simp [List.getD, h]
  rw [e, List.countP_cons]; simp
set_option maxRecDepth 100000 in
set_option maxHeartbeats 4000000 in
theorem rapart2_any (w : World) (N : Nt) (A : Option Addr) (c m : Nat) (hm : N.n = (m : Int)) (hm12 : m ≤ 12) (hN : NtAt w w.heap.size A N.l) (hv : vld N = true) :
    Calls Tryz.prog 17 #[ntV N A c] w fun e w' => e = .returned (.bool (ap2 N m)) ∧ Below w.heap.size w w' := by
  obtain ⟨hn0, hn1, hl0, hl1⟩ := vld_bounds hv
  have htr := fun W s h => rtruth_any W N A c s h hv
  have hnt := fun W k h => rnth_any W m k (by omega) h
  have hfm := fun k hk => vld_formed hv k hk
  have hno := fun k hk h => ap2_no (N := N) (n := m) (k := k) hk h
  have hye := fun h => ap2_yes (N := N) (n := m) h
  have hdy := fun s h => detAt_yes (N := N) (s := s) h
  have hdn := fun s i hi h => detAt_no (N := N) (s := s) (i := i) hi h
  obtain ⟨P, hP⟩ : ∃ b, ap2 N m = b := ⟨_, rfl⟩
  simp only [hP] at hno hye ⊢
  obtain ⟨DA, hDA⟩ : ∃ f : Nat → Bool, ∀ s, detAt N s = f s := ⟨_, fun _ => rfl⟩
  simp only [hDA] at hno hye hdy hdn
  obtain ⟨TT, hTT⟩ : ∃ f : Nat → List Bool, ∀ s, truth s N.l = f s := ⟨_, fun _ => rfl⟩
  have htl : ∀ s, (TT s).length = N.l.length := fun s => by rw [← hTT]; exact truth_len s N.l
  simp only [hTT] at htr hdy hdn
  have HTR := Lib.hid htr
  have HNT := Lib.hid hnt
  have HF := Lib.hid hfm
  have HNO := Lib.hid hno
  have HYE := Lib.hid hye
  have HDY := Lib.hid hdy
  have HDN := Lib.hid hdn
  have HTL := Lib.hid htl
  clear htr hnt hfm hno hye hdy hdn hP hDA hTT htl hv
  obtain ⟨n, l⟩ := N
  simp only at hm hN hn0 hn1 hl0 hl1
  subst hm
  have hbox := ntNew w ⟨(m : Int), l⟩ A c 24 _ rfl
  have hbl : Below w.heap.size w (w.alloc (.cells #[.int .i64 (m : Int), .slice A l.length c] 24)) := (Below.refl _ _).alloc (Nat.le_refl _) _
  have h2m : (2 : Nat) ^ m ≤ 4096 := Nat.pow_le_pow_right (n := 2) (by decide) hm12
  obtain ⟨M, hM⟩ : ∃ M, (2 : Nat) ^ m = M := ⟨_, rfl⟩
  have hMi : ((2 : Int) ^ m) = (M : Int) := by rw [← hM, Int.natCast_pow]; rfl
  rw [hM] at h2m
  have hMw : IntKind.i64.wrap (M : Int) = (M : Int) := by rw [IntKind.wrap_i64]; omega
  simp only [hM] at HNO HYE
  go_enter Tryz.func17, Tryz.ntmps17
  go_wp2
  go_loopw [3] (fun t wr => ∃ k : Nat, k ≤ M ∧ t = .int .i64 (k : Int) ∧ Hid (∀ j, j < k → DA (nthR m j m) = true) ∧ wr.rowIs w.heap.size 24 2 (ntF ⟨(m : Int), l⟩ A c) ∧ Below w.heap.size w wr) (fun t _ => M - (intOf t).toNat)
  case atStart => exact ⟨0, by omega, rfl, Lib.hid (fun j hj => absurd hj (by omega)), hbox, hbl⟩
  case round =>
    clear hbox hbl
    obtain ⟨k, hk, rfl, HD, hbox, hbl⟩ := hrel
    obtain ⟨hc1, hc2⟩ := ntCells hbox
    have hgw := hbox.lt
    by_cases hlt : k < M
    · have hi1 : (k : Int) < (M : Int) := by omega
      go_wp2_with fail
      have c1 : wr.drew.cell? ⟨w.heap.size, 0, none⟩ = some (.int .i64 (m : Int)) := hc1
      have c2 : wr.drew.cell? ⟨w.heap.size, 1, none⟩ = some (.slice A l.length c) := hc2
      replace hbox := hbox.drew
      replace hbl : Below w.heap.size w wr.drew := belowDrewN hbl 1
      clear hc1 hc2
      go_region_held3 (fun w' => w'.cell? ⟨w.heap.size, 0, none⟩ = some (.int .i64 (m : Int)) ∧ w'.cell? ⟨w.heap.size, 1, none⟩ = some (.slice A l.length c)) (first | exact ⟨c1, c2⟩ | go_keep)
        (first
          | (go_simp
             go_at_call 38
             (with_reducible refine (HNT.out _ k (by omega)).mono ?_)
             rintro e w5 ⟨rfl, hb5⟩
             replace hbox := rowBelow hbox hb5
             replace hbl := Cs.Below.trans' hbl hb5 hbl.size
             obtain ⟨c1, c2⟩ := ntCells hbox)
          | (go_simp
             go_at_call 37
             (with_reducible refine (HTR.out _ _ ((hN.below hbl).more hbl.size)).mono ?_)
             rintro e w6 ⟨g6, d6, rfl, hg6, hr6, hb6⟩
             replace hbox := rowBelow hbox hb6
             replace hbl := Cs.Below.trans' hbl hb6 hbl.size
             have HR6 := Lib.hid hr6
             clear hr6 hg6 hb6
             obtain ⟨c1, c2⟩ := ntCells hbox))
      all_goals
        try go_wp2
        have htl := HTL.out (nthR m k m)
        have hdy := HDY.out (nthR m k m)
        have hdn := HDN.out (nthR m k m)
        have hno := HNO.out k hlt
        have hdk := HD.out
        obtain ⟨T, hT⟩ : ∃ T, TT (nthR m k m) = T := ⟨_, rfl⟩
        simp only [hT] at htl hdy hdn HR6
        have HDY1 := Lib.hid hdy
        have HDN1 := Lib.hid hdn
        have HNO1 := Lib.hid hno
        have HTL1 := Lib.hid htl
        have HBOX := Lib.hid hbox
        have HBL := Lib.hid hbl
        clear htl hdy hdn hno hdk hT c1 c2 hbox hbl
        go_loopw [5] (fun t wq => ∃ i : Nat, i ≤ l.length ∧ t = .int .i64 (i : Int) ∧ Hid (∀ j (hj : j < l.length), j < i → cnt4 T l[j] ≤ 1) ∧ wq = w6) (fun t _ => l.length - (intOf t).toNat)
        case atStart => exact ⟨0, by omega, rfl, Lib.hid (fun j _ hj => absurd hj (by omega)), rfl⟩
        case round =>
          obtain ⟨i, hi, rfl, HC, rfl⟩ := hrel
          have hbox := HBOX.out
          have hbl := HBL.out
          obtain ⟨hc1, hc2⟩ := ntCells hbox
          by_cases hilt : i < l.length
          · obtain ⟨b, o, rfl, hbB, hcs⟩ := hN (by omega)
            have hnd := hcs i hilt
            clear hcs
            have hfk := HF.out i hilt
            have hdn := HDN1.out i hilt
            have hcn : cnt4 T l[i] = if l[i].kind = 4 then l[i].ins.countP fun j => T.getD j.toNat false else 0 := rfl
            have hcc := HC.out
            have hnx : (cnt4 T l[i] ≤ 1) → ∀ j (hj : j < l.length), j < i + 1 → cnt4 T l[j] ≤ 1 := fun h j hj hji => by
              rcases Nat.lt_or_ge j i with h1 | h1
              · exact hcc j hj h1
              · have : j = i := by omega
                subst this; exact h
            obtain ⟨x, hx⟩ : ∃ x, l[i] = x := ⟨_, rfl⟩
            simp only [hx] at hnd hfk hdn hcn hnx
            have hin := formed_ins hfk
            have HIN := Lib.hid hin
            have HDN2 := Lib.hid hdn
            have HCN := Lib.hid hcn
            have HNX := Lib.hid hnx
            clear hin hfk hx hdn hcn hnx hcc
            obtain ⟨hk1, hk2, ⟨A', c', hk3, hrd⟩, hr1, hr2, hr3, hr4⟩ := hnd
            replace hk1 := below_cell hbl hbB hk1
            replace hk3 := below_cell hbl hbB hk3
            have HRD := Lib.hid (hrd.below hbl)
            clear hrd hk2
            have hi0 : (0 : Int) ≤ (i : Int) := by omega
            have hi1 : (i : Int) < (l.length : Int) := by omega
            obtain ⟨kd, hkd⟩ : ∃ kd, x.kind = kd := ⟨_, rfl⟩
            rw [hkd] at hk1 HCN
            have HKD := Lib.hid hkd
            clear hkd hbox hbl hr1 hr2
            go_wp2
            go_loopw [6, 7] (fun mv t wq => ∃ j : Nat, j ≤ x.ins.length ∧ t = .int .i64 (j : Int) ∧ mv = .int .i64 (((x.ins.take j).countP fun j => T.getD j.toNat false : Nat) : Int) ∧ (j = 0 ∨ kd = 4) ∧ wq = wr) (fun _ t _ => x.ins.length - (intOf t).toNat)
            case atStart => exact ⟨0, by omega, rfl, rfl, .inl rfl, rfl⟩
            case round =>
              obtain ⟨j, hj, rfl, rfl, hj4, rfl⟩ := hrel
              by_cases hin : j < x.ins.length ∧ kd = 4
              · obtain ⟨hjlt, rfl⟩ := hin
                obtain ⟨b', o', rfl, hbB', hcs⟩ := HRD.out (by omega)
                have hc := hcs j hjlt
                clear hcs
                unfold intF at hc
                obtain ⟨q, hq1, hq2⟩ := HIN.out j hjlt
                have hct := cnt_take (fun j => T.getD j.toNat false) x.ins j hjlt
                rw [hq1] at hc hct
                simp only [Int.toNat_natCast] at hct
                have hle := List.countP_le_length (p := fun j => T.getD j.toNat false) (l := x.ins.take j)
                rw [List.length_take] at hle
                obtain ⟨C, hC⟩ : ∃ C, (x.ins.take j).countP (fun j => T.getD j.toNat false) = C := ⟨_, rfl⟩
                simp only [hC] at hct hle ⊢
                obtain ⟨bb, oo, e6, hb6, hcs6⟩ := HR6.out (by omega)
                injection e6 with e6
                injection e6 with e61 e62 _
                subst e61; subst e62
                have hcq := hcs6 q (by omega)
                rw [Nat.zero_add] at hcq
                unfold boolF at hcq
                obtain ⟨y, hy⟩ : ∃ y, T.getD q false = y := ⟨_, rfl⟩
                rw [hy] at hcq
                simp only [Int.toNat_natCast, hy] at hct
                have HCT := Lib.hid hct
                have j0 : (0 : Int) ≤ (j : Int) := by omega
                have j1 : (j : Int) < (x.ins.length : Int) := by omega
                have q0 : (0 : Int) ≤ (q : Int) := by omega
                have q1 : (q : Int) < (l.length : Int) := by omega
                have hwr : IntKind.i64.wrap ((C : Int) + 1) = (C : Int) + 1 := by rw [IntKind.wrap_i64]; omega
                clear hq1 hct hC hy hcs6 hle hj4
                cases y
                all_goals
                  go_wp2
                  go_roundw
                  case rel => exact ⟨j + 1, by omega, by go_num, by rw [HCT.out]; first | rfl | (simp; done) | (go_num), .inr (by first | rfl | trivial), by first | rfl | trivial⟩
                  case measure => simp [intOf]; omega
              · have hcnt : cnt4 T x = (x.ins.take j).countP fun j => T.getD j.toNat false := by
                  rw [HCN.out]
                  by_cases h4 : kd = 4
                  · rw [if_pos h4]
                    have : j = x.ins.length := by omega
                    rw [this, List.take_length]
                  · have h0 : j = 0 := by omega
                    rw [if_neg h4, h0]; rfl
                have hle := List.countP_le_length (p := fun j => T.getD j.toNat false) (l := x.ins.take j)
                obtain ⟨C, hC⟩ : ∃ C, (x.ins.take j).countP (fun j => T.getD j.toNat false) = C := ⟨_, rfl⟩
                rw [hC] at hcnt
                simp only [hC] at ⊢
                have HCNT := Lib.hid hcnt
                clear hcnt hC hle
                have hcase : (¬ (j < x.ins.length)) ∨ (j < x.ins.length ∧ kd ≠ 4) := by omega
                clear hin
                by_cases hC1 : 1 < C
                · have hfin : P = false := HNO1.out (HDN2.out (by rw [HCNT.out]; exact hC1))
                  have HFIN := Lib.hid hfin
                  have hC1i : (1 : Int) < (C : Int) := by omega
                  rcases hcase with h1 | ⟨h1, h2⟩
                  · have h1i : ¬ ((j : Int) < (x.ins.length : Int)) := by omega
                    clear hfin
                    go_wp2
                    go_ret
                    exact ⟨by rw [HFIN.out]; rfl, HBL.out⟩
                  · have h1i : ((j : Int) < (x.ins.length : Int)) := by omega
                    clear hfin
                    go_wp2
                    go_ret
                    exact ⟨by rw [HFIN.out]; rfl, HBL.out⟩
                · have hC1i : ¬ ((1 : Int) < (C : Int)) := by omega
                  have HNX2 := Lib.hid (HNX.out (by rw [HCNT.out]; omega))
                  rcases hcase with h1 | ⟨h1, h2⟩
                  · have h1i : ¬ ((j : Int) < (x.ins.length : Int)) := by omega
                    go_wp2
                    go_roundw
                    case rel => exact ⟨i + 1, by omega, by go_num, HNX2, by first | rfl | trivial⟩
                    case measure => simp [intOf]; omega
                  · have h1i : ((j : Int) < (x.ins.length : Int)) := by omega
                    go_wp2
                    go_roundw
                    case rel => exact ⟨i + 1, by omega, by go_num, HNX2, by first | rfl | trivial⟩
                    case measure => simp [intOf]; omega
          · obtain rfl : i = l.length := by omega
            have hi1 : ¬ ((l.length : Int) < (l.length : Int)) := by omega
            have hall := HDY1.out (fun j hj => HC.out j hj hj)
            have hdk := HD.out
            have HDN3 : Hid (∀ j, j < k + 1 → DA (nthR m j m) = true) := Lib.hid (fun j hj => by
              rcases Nat.lt_or_ge j k with h1 | h1
              · exact hdk j h1
              · rw [show j = k by omega]; exact hall)
            clear hall hdk hilt
            go_wp2
            go_roundw
            case rel => exact ⟨k + 1, by omega, by go_num, HDN3, hbox, hbl⟩
            case measure => simp [intOf]; omega
    · obtain rfl : k = M := by omega
      have hi1 : ¬ ((k : Int) < (k : Int)) := by omega
      have hfin : P = true := HYE.out HD.out
      have HFIN := Lib.hid hfin
      clear hfin
      go_wp2
      go_ret
      exact ⟨by rw [HFIN.out]; rfl, hbl⟩
end Go.Proofs.YtgnobohfnhpkdaaGreatDoor
end
