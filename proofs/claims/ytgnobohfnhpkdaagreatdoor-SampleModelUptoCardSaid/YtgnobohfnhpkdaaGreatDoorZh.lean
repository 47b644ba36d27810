/- The walk of SampleModel. -/
import Derived.Test.YtgnobohfnhpkdaaGreatDoorZg
import Derived.Test.YtgnobohfnhpkdaaGreatDoorRE
import Derived.Test.YtgnobohfnhpkdaaGreatDoorRG
import Derived.WalkMore
set_option linter.unusedSimpArgs false
set_option linter.unusedVariables false
open Go Go.RowKit Cs
namespace Go.Proofs.YtgnobohfnhpkdaaGreatDoor
set_option maxRecDepth 100000 in
set_option maxHeartbeats 4000000 in
theorem model_no (w : World) (N : Nt) (A Al Ah Ab : Option Addr) (c cl ch cb ll lh lb : Nat) (hlen : N.l.length ≤ 140737488355328) (hN : NtAt w w.heap.size A N.l) (hT : Tab w)
    (h : fewS N lb = false ∨ (fewS N lb = true ∧ 10 < N.n) ∨ (fewS N lb = true ∧ N.n ≤ 10 ∧ cchk N ≠ 0) ∨ (fewS N lb = true ∧ N.n ≤ 10 ∧ cchk N = 0 ∧ ap2 N N.n.toNat = false)) :
    Calls Tryz.prog 7 #[ntV N A c, .slice Al ll cl, .slice Ah lh ch, .slice Ab lb cb] w fun e w' => e = .returned (.bool true) ∧ Below w.heap.size w w' := by
  have hfw := fun W hN => fewS_any W N A Ab c lb cb hlen hN
  have hck := fun W hN => rcheck_any W N A c hlen hN
  have hap : cchk N = 0 → N.n ≤ 10 → ap2 N N.n.toNat = false → ∀ W, NtAt W W.heap.size A N.l → Calls Tryz.prog 17 #[ntV N A c] W fun e w' => e = .returned (.bool false) ∧ Below W.heap.size W w' := fun hc h10 ha W hN => by
    obtain ⟨hn0, hn1, _, _⟩ := vld_bounds (cchk_vld hc)
    have := rapart2_any W N A c N.n.toNat (by omega) (by omega) hN (cchk_vld hc)
    rw [ha] at this
    exact this
  have HAP := Lib.hid hap
  obtain ⟨E, hE⟩ : ∃ E, cchk N = E := ⟨_, rfl⟩
  obtain ⟨X, hX⟩ : ∃ X, ap2 N N.n.toNat = X := ⟨_, rfl⟩
  rw [hE] at hck h HAP
  rw [hX] at h HAP
  have HCK := Lib.hid hck
  clear hck hE hX hap
  obtain ⟨Nn, l⟩ := N
  simp only at h hN HAP
  have q0 := (Bag.zero w).new #[.int .i64 Nn, .slice A l.length c] 24 w.heap.size 2 rfl rfl
  have HNT := Lib.hid (fun W (hb : Below w.heap.size w W) => (hN.below hb).more hb.size)
  have HTB := Lib.hid (fun W (hb : Below w.heap.size w W) => hT.below hb)
  clear hN hT
  rcases h with h | ⟨h, h6⟩ | ⟨h, h6, hE⟩ | ⟨h, h6, hE, hX⟩
  · rw [h] at hfw
    have HFW := Lib.hid hfw
    clear hfw h HAP HCK
    go_enter Tryz.func7, Tryz.ntmps7
    go_wp2_with fail
    refine (HFW.out _ (HNT.out _ q0.bl)).mono ?_
    rintro e w1 ⟨rfl, hb1⟩
    have q1 := q0.below hb1
    have m1 := q1.is w.heap.size 2 24 #[.int .i64 Nn, .slice A l.length c] (by simp) 0 (by decide) (.int .i64 Nn) rfl
    have m2 := q1.is w.heap.size 2 24 #[.int .i64 Nn, .slice A l.length c] (by simp) 1 (by decide) (.slice A l.length c) rfl
    clear hb1
    go_wp2_with fail
    refine (works_any _ (HTB.out _ q1.bl)).mono ?_
    rintro e w9 ⟨rfl, hb9⟩
    have hb := Cs.Below.trans' q1.bl hb9 q1.bl.size
    go_wp2_with fail
    go_ret
    exact ⟨rfl, hb⟩
  · rw [h] at hfw
    have HFW := Lib.hid hfw
    have d1 : decide (10 < Nn) = true := decide_eq_true h6
    clear hfw h HAP HCK
    go_enter Tryz.func7, Tryz.ntmps7
    go_wp2_with fail
    refine (HFW.out _ (HNT.out _ q0.bl)).mono ?_
    rintro e w1 ⟨rfl, hb1⟩
    have q1 := q0.below hb1
    have m1 := q1.is w.heap.size 2 24 #[.int .i64 Nn, .slice A l.length c] (by simp) 0 (by decide) (.int .i64 Nn) rfl
    have m2 := q1.is w.heap.size 2 24 #[.int .i64 Nn, .slice A l.length c] (by simp) 1 (by decide) (.slice A l.length c) rfl
    clear hb1
    go_wp2_with fail
    refine (works_any _ (HTB.out _ q1.bl)).mono ?_
    rintro e w9 ⟨rfl, hb9⟩
    have hb := Cs.Below.trans' q1.bl hb9 q1.bl.size
    go_wp2_with fail
    go_ret
    exact ⟨rfl, hb⟩
  · rw [h] at hfw
    have HFW := Lib.hid hfw
    have d1 : decide (10 < Nn) = false := decide_eq_false (by omega)
    have d2 : (E == 0) = false := beq_eq_false_iff_ne.2 hE
    have d3 : (E != 0) = true := by simp [bne, d2]
    clear hfw h HAP
    go_enter Tryz.func7, Tryz.ntmps7
    go_wp2_with fail
    refine (HFW.out _ (HNT.out _ q0.bl)).mono ?_
    rintro e w1 ⟨rfl, hb1⟩
    have q1 := q0.below hb1
    have m1 := q1.is w.heap.size 2 24 #[.int .i64 Nn, .slice A l.length c] (by simp) 0 (by decide) (.int .i64 Nn) rfl
    have m2 := q1.is w.heap.size 2 24 #[.int .i64 Nn, .slice A l.length c] (by simp) 1 (by decide) (.slice A l.length c) rfl
    clear hb1
    go_wp2_with fail
    refine (HCK.out _ (HNT.out _ q1.bl)).mono ?_
    rintro e w2 ⟨rfl, hb2⟩
    have q2 := q1.below hb2
    clear m1 m2 hb2
    have m1 := q2.is w.heap.size 2 24 #[.int .i64 Nn, .slice A l.length c] (by simp) 0 (by decide) (.int .i64 Nn) rfl
    have m2 := q2.is w.heap.size 2 24 #[.int .i64 Nn, .slice A l.length c] (by simp) 1 (by decide) (.slice A l.length c) rfl
    go_wp2_with fail
    refine (works_any _ (HTB.out _ q2.bl)).mono ?_
    rintro e w9 ⟨rfl, hb9⟩
    have hb := Cs.Below.trans' q2.bl hb9 q2.bl.size
    go_wp2_with fail
    go_ret
    exact ⟨rfl, hb⟩
  · rw [h] at hfw
    have HFW := Lib.hid hfw
    have d1 : decide (10 < Nn) = false := decide_eq_false (by omega)
    have hap := HAP.out hE h6 hX
    subst hE
    clear hfw h HAP
    have HAP := Lib.hid hap
    clear hap
    go_enter Tryz.func7, Tryz.ntmps7
    go_wp2_with fail
    refine (HFW.out _ (HNT.out _ q0.bl)).mono ?_
    rintro e w1 ⟨rfl, hb1⟩
    have q1 := q0.below hb1
    have m1 := q1.is w.heap.size 2 24 #[.int .i64 Nn, .slice A l.length c] (by simp) 0 (by decide) (.int .i64 Nn) rfl
    have m2 := q1.is w.heap.size 2 24 #[.int .i64 Nn, .slice A l.length c] (by simp) 1 (by decide) (.slice A l.length c) rfl
    clear hb1
    go_wp2_with fail
    refine (HCK.out _ (HNT.out _ q1.bl)).mono ?_
    rintro e w2 ⟨rfl, hb2⟩
    have q2 := q1.below hb2
    clear m1 m2 hb2
    have m1 := q2.is w.heap.size 2 24 #[.int .i64 Nn, .slice A l.length c] (by simp) 0 (by decide) (.int .i64 Nn) rfl
    have m2 := q2.is w.heap.size 2 24 #[.int .i64 Nn, .slice A l.length c] (by simp) 1 (by decide) (.slice A l.length c) rfl
    go_wp2_with fail
    refine (HAP.out _ (HNT.out _ q2.bl)).mono ?_
    rintro e w3 ⟨rfl, hb3⟩
    have q3 := q2.below hb3
    clear m1 m2 hb3
    have m1 := q3.is w.heap.size 2 24 #[.int .i64 Nn, .slice A l.length c] (by simp) 0 (by decide) (.int .i64 Nn) rfl
    have m2 := q3.is w.heap.size 2 24 #[.int .i64 Nn, .slice A l.length c] (by simp) 1 (by decide) (.slice A l.length c) rfl
    go_wp2_with fail
    refine (works_any _ (HTB.out _ q3.bl)).mono ?_
    rintro e w9 ⟨rfl, hb9⟩
    have hb := Cs.Below.trans' q3.bl hb9 q3.bl.size
    go_wp2_with fail
    go_ret
    exact ⟨rfl, hb⟩
set_option maxRecDepth 100000 in
theorem wt_no {w : World} {lo hi : List ByteArray} {e : Ending} {w' : World} (h : WtsR w lo hi e w') (hn : ¬ (okL lo lo.length ∧ okL hi hi.length)) : Below w.heap.size w w' ∧ ∃ (Al Ah : Option Addr) (m k c d : Nat), e = .returned (.tuple #[wtsV Al Ah m k c d, .bool false]) := by
  obtain ⟨hb, ⟨_, h⟩ | ⟨hy, _⟩⟩ := h
  · exact ⟨hb, h⟩
  · exact absurd hy hn
theorem wt_yes {w : World} {lo hi : List ByteArray} {e : Ending} {w' : World} (h : WtsR w lo hi e w') (h1 : okL lo lo.length) (h2 : okL hi hi.length) : Below w.heap.size w w' ∧ ∃ Al Ah cl ch, e = .returned (.tuple #[wtsV Al Ah lo.length hi.length cl ch, .bool (decide (lo.length ≤ 140) && decide (hi.length ≤ 140))]) ∧ lo.length ≤ cl ∧ hi.length ≤ ch ∧
      Rd w' w'.heap.size Al (lo.length * 2) (prsF (prL lo)) ∧ Rd w' w'.heap.size Ah (hi.length * 2) (prsF (prL hi)) := by
  obtain ⟨hb, ⟨hn, _⟩ | ⟨_, h⟩⟩ := h
  · exact absurd ⟨h1, h2⟩ hn
  · exact ⟨hb, h⟩
theorem bit_lo (a k : Nat) (hk : k < 64) : ((((Cs.lo a : Nat) : Int) / 2 ^ k).tmod 2 == 1) = a.testBit k := by
  have e1 : ((Cs.lo a : Nat) : Int) / 2 ^ k = ((Cs.lo a / 2 ^ k : Nat) : Int) := by simp
  have e2 : ((Cs.lo a / 2 ^ k : Nat) : Int).tmod 2 = ((Cs.lo a / 2 ^ k % 2 : Nat) : Int) := rfl
  have e3 : (Cs.lo a).testBit k = a.testBit k := by
    unfold Cs.lo
    rw [show (18446744073709551616 : Nat) = 2 ^ 64 by decide, Nat.testBit_mod_two_pow, decide_eq_true hk, Bool.true_and]
  rw [e1, e2, ← e3, Nat.testBit_eq_decide_div_mod_eq]
  by_cases h : Cs.lo a / 2 ^ k % 2 = 1
  · rw [h]; simp
  · rw [decide_eq_false h]
    exact beq_eq_false_iff_ne.2 fun e => h (by exact_mod_cast e)
set_option maxRecDepth 100000 in
set_option maxHeartbeats 8000000 in
theorem model_go (w : World) (N : Nt) (A Al Ah Ab : Option Addr) (c cl ch cb n : Nat) (lo hi : List ByteArray) (bs : List Nat) (hlen : N.l.length ≤ 140737488355328) (hN : NtAt w w.heap.size A N.l) (hT : Tab w)
    (hl1 : lo.length ≤ 1000000000000) (hl2 : hi.length ≤ 1000000000000) (hrl : Rd w w.heap.size Al lo.length (strF lo)) (hrh : Rd w w.heap.size Ah hi.length (strF hi)) (hs1 : ∀ i, (lo.getD i ⟨#[]⟩).size ≤ maxLen) (hs2 : ∀ i, (hi.getD i ⟨#[]⟩).size ≤ maxLen)
    (hbs : Rd w w.heap.size Ab bs.length (byF bs)) (hb8 : ∀ i, bs.getD i 0 < 256) (hf : fewS N bs.length = true) (hn : N.n = (n : Int)) (hn10 : n ≤ 10) (hc : cchk N = 0) (ha : ap2 N n = true) :
    Calls Tryz.prog 7 #[ntV N A c, .slice Al lo.length cl, .slice Ah hi.length ch, .slice Ab bs.length cb] w fun e w' => e = .returned (.bool true) ∧ Below w.heap.size w w' := by
  have hv := cchk_vld hc
  have hdet : ∀ s, s < 2 ^ n → detAt N s = true := fun s hs => ap2_det ha s hs
  have hf2 := hf
  unfold fewS at hf2
  simp only [Bool.and_eq_true, decide_eq_true_eq] at hf2
  have hin := few_ins hf2.1.1
  have hlb : bs.length ≤ 1000000 := by omega
  have hfw := fun W hN => fewS_any W N A Ab c bs.length cb hlen hN
  have hck := fun W hN => rcheck_any W N A c hlen hN
  have hap := fun W hN => rapart2_any W N A c n hn (by omega) hN hv
  rw [hf] at hfw
  rw [hc] at hck
  rw [ha] at hap
  obtain ⟨T1, hT1⟩ : ∃ T, dwR N bs = T := ⟨_, rfl⟩
  have hdw := fun W hN hT hb => sdraw_any W N A c bs.length cb bs Ab hlen hN hT hin rfl hlb hb hb8
  rw [hT1] at hdw
  have hev : T1.e = 0 ∧ T1.ok = true → ∀ W, NtAt W W.heap.size A N.l → Calls Tryz.prog 19 #[ntV N A c, setV T1.a] W fun e w' => e = .returned (.bool true) ∧ Below W.heap.size W w' := fun ⟨h1, h2⟩ W h => by
    have : evB N T1.a = true := by
      rw [← hT1] at h1 h2 ⊢
      rw [dw_tk hv hn (by omega) bs hc] at h1 h2 ⊢
      obtain ⟨_, _, r, u, hd, hA⟩ := tkR_ok h1 h2
      rw [hA]
      have e := (draw_cnt hn hc).2.2
      rw [← e] at hd
      exact (drawn_model hn hc hdet bs r u hd).2.1
    rw [← this]
    exact reval_any W N A c _ h hv
  obtain ⟨T2, hT2⟩ : ∃ T, wgR N (prL lo) (prL hi) bs = T := ⟨_, rfl⟩
  have hll : ∀ L : List ByteArray, (prL L).length = L.length := fun L => by unfold prL; rw [List.length_map]
  have hwg : ∀ W Bl Bh dl dh, okL lo lo.length → okL hi hi.length → lo.length ≤ dl → hi.length ≤ dh → NtAt W W.heap.size A N.l → Tab W → Rd W W.heap.size Bl (lo.length * 2) (prsF (prL lo)) → Rd W W.heap.size Bh (hi.length * 2) (prsF (prL hi)) → Rd W W.heap.size Ab bs.length (byF bs) →
      Calls Tryz.prog 21 #[ntV N A c, wtsV Bl Bh lo.length hi.length dl dh, .slice Ab bs.length cb] W fun e w' => e = .returned (tkV T2) ∧ Below W.heap.size W w' := fun W Bl Bh dl dh k1 k2 h1 h2 hN hT r1 r2 rb => by
    have := weighted_any W N A c dl dh bs.length cb (prL lo) (prL hi) bs Bl Bh Ab hlen hN hT hin (okL_wg k1) (okL_wg k2) (by rw [hll]; exact r1) (by rw [hll]; exact r2) (by rw [hll]; exact h1) (by rw [hll]; exact h2) rfl hlb rb hb8
    rw [hT2, hll, hll] at this
    exact this
  have hgood : okL lo lo.length → okL hi hi.length → T2.e = 0 → T2.ok = true → lo.length = n + 1 ∧ hi.length = n + 1 ∧ T2.a < 2 ^ n ∧ evB N T2.a = true ∧ ∀ v, v < n → (if T2.a.testBit v = true then hi.getD (v + 1) ⟨#[]⟩ else lo.getD (v + 1) ⟨#[]⟩) ≠ ⟨#[48]⟩ := fun k1 k2 h1 h2 => by
    rw [← hT2] at h1 h2
    have := wg_model hn hc hdet (okL_wg k1) (okL_wg k2) bs h1 h2
    rw [hT2, hll, hll] at this
    obtain ⟨g1, g2, g3, g4, g5⟩ := this
    refine ⟨g1, g2, g3, g4, fun v hvn => ?_⟩
    have := g5 v hvn
    split
    · rename_i hb
      rw [if_pos hb, prL_get _ _ (by omega)] at this
      exact prT_ne this
    · rename_i hb
      rw [if_neg hb, prL_get _ _ (by omega)] at this
      exact prT_ne this
  have hcase : ¬ (okL lo lo.length ∧ okL hi hi.length) ∨ (okL lo lo.length ∧ okL hi hi.length ∧ (((decide (lo.length ≤ 140) && decide (hi.length ≤ 140)) = false ∧ True) ∨ ((decide (lo.length ≤ 140) && decide (hi.length ≤ 140)) = true ∧
      ((T2.e ≠ 0 ∨ (T2.e = 0 ∧ T2.ok = false)) ∨ (T2.e = 0 ∧ T2.ok = true ∧ lo.length = n + 1 ∧ hi.length = n + 1 ∧ T2.a < 2 ^ n ∧ evB N T2.a = true ∧ ∀ v, v < n → (if T2.a.testBit v = true then hi.getD (v + 1) ⟨#[]⟩ else lo.getD (v + 1) ⟨#[]⟩) ≠ ⟨#[48]⟩))))) := by
    by_cases k : okL lo lo.length ∧ okL hi hi.length
    · refine .inr ⟨k.1, k.2, ?_⟩
      cases hb : decide (lo.length ≤ 140) && decide (hi.length ≤ 140)
      · exact .inl ⟨rfl, trivial⟩
      · refine .inr ⟨rfl, ?_⟩
        by_cases h0 : T2.e = 0
        · cases h1 : T2.ok
          · exact .inl (.inr ⟨h0, rfl⟩)
          · exact .inr ⟨h0, rfl, hgood k.1 k.2 h0 h1⟩
        · exact .inl (.inl h0)
    · exact .inl k
  have hev2 : T2.a < 2 ^ n → evB N T2.a = true → ∀ W, NtAt W W.heap.size A N.l → Calls Tryz.prog 19 #[ntV N A c, setV T2.a] W fun e w' => e = .returned (.bool true) ∧ Below W.heap.size W w' := fun _ h W hN => by
    rw [← h]
    exact reval_any W N A c _ hN hv
  have hws := fun W (h1 : Rd W W.heap.size Al lo.length (strF lo)) (h2 : Rd W W.heap.size Ah hi.length (strF hi)) => weights_any W lo hi Al Ah cl ch hl1 hl2 h1 h2 hs1 hs2
  have HFW := Lib.hid hfw
  have HCK := Lib.hid hck
  have HAP := Lib.hid hap
  have HWS := Lib.hid hws
  have HRL := Lib.hid (fun W (hb : Below w.heap.size w W) => (hrl.below hb).more hb.size)
  have HRH := Lib.hid (fun W (hb : Below w.heap.size w W) => (hrh.below hb).more hb.size)
  have HBS := Lib.hid (fun W (hb : Below w.heap.size w W) => (hbs.below hb).more hb.size)
  have d1 : decide (10 < (n : Int)) = false := decide_eq_false (by omega)
  clear hfw hck hap hws hgood hT1 hT2 hll hin hdet hv hf hf2 hlb hc ha hrl hrh hbs hs1 hs2 hl1 hl2 hb8
  obtain ⟨Nn, l⟩ := N
  simp only at hn
  subst hn
  have q0 := (Bag.zero w).new #[.int .i64 (n : Int), .slice A l.length c] 24 w.heap.size 2 rfl rfl
  have HNT := Lib.hid (fun W (hb : Below w.heap.size w W) => (hN.below hb).more hb.size)
  have HTB := Lib.hid (fun W (hb : Below w.heap.size w W) => hT.below hb)
  clear hN hT
  obtain ⟨a1, u1, o1, e1⟩ := T1
  obtain ⟨a2, u2, o2, e2⟩ := T2
  simp only at hcase hev hev2
  have hdw' : ∀ W, NtAt W W.heap.size A l → Tab W → Rd W W.heap.size Ab bs.length (byF bs) → Calls Tryz.prog 12 #[.agg #[.int .i64 (n : Int), .slice A l.length c], .slice Ab bs.length cb] W fun e w' => e = .returned (.tuple #[.agg #[.int .u64 (Cs.lo a1 : Int), .int .u64 (Cs.hi a1 : Int)], .int .i64 (u1 : Int), .bool o1, .int .i64 e1]) ∧ Below W.heap.size W w' := hdw
  have hwg' : ∀ W Bl Bh dl dh, okL lo lo.length → okL hi hi.length → lo.length ≤ dl → hi.length ≤ dh → NtAt W W.heap.size A l → Tab W → Rd W W.heap.size Bl (lo.length * 2) (prsF (prL lo)) → Rd W W.heap.size Bh (hi.length * 2) (prsF (prL hi)) → Rd W W.heap.size Ab bs.length (byF bs) →
      Calls Tryz.prog 21 #[.agg #[.int .i64 (n : Int), .slice A l.length c], wtsV Bl Bh lo.length hi.length dl dh, .slice Ab bs.length cb] W fun e w' => e = .returned (.tuple #[.agg #[.int .u64 (Cs.lo a2 : Int), .int .u64 (Cs.hi a2 : Int)], .int .i64 (u2 : Int), .bool o2, .int .i64 e2]) ∧ Below W.heap.size W w' := hwg
  have HDW := Lib.hid hdw'
  have HWG := Lib.hid hwg'
  have HEV2 := Lib.hid hev2
  clear hdw hwg hdw' hwg' hev2
  by_cases hd : e1 = 0 ∧ o1 = true
  · have hevd := hev hd
    have HEV := Lib.hid hevd
    obtain ⟨rfl, rfl⟩ := hd
    clear hev hevd
    go_enter Tryz.func7, Tryz.ntmps7
    go_wp2_with fail
    refine (HFW.out _ (HNT.out _ q0.bl)).mono ?_
    rintro e w1 ⟨rfl, hb1⟩
    have q1 := q0.below hb1
    have m1 := q1.is w.heap.size 2 24 #[.int .i64 (n : Int), .slice A l.length c] (by simp) 0 (by decide) (.int .i64 (n : Int)) rfl
    have m2 := q1.is w.heap.size 2 24 #[.int .i64 (n : Int), .slice A l.length c] (by simp) 1 (by decide) (.slice A l.length c) rfl
    clear hb1
    go_wp2_with fail
    refine (HCK.out _ (HNT.out _ q1.bl)).mono ?_
    rintro e w2 ⟨rfl, hb2⟩
    have q2 := q1.below hb2
    clear m1 m2 hb2
    have m1 := q2.is w.heap.size 2 24 #[.int .i64 (n : Int), .slice A l.length c] (by simp) 0 (by decide) (.int .i64 (n : Int)) rfl
    have m2 := q2.is w.heap.size 2 24 #[.int .i64 (n : Int), .slice A l.length c] (by simp) 1 (by decide) (.slice A l.length c) rfl
    go_wp2_with fail
    refine (HAP.out _ (HNT.out _ q2.bl)).mono ?_
    rintro e w3 ⟨rfl, hb3⟩
    have q3 := q2.below hb3
    clear m1 m2 hb3
    have m1 := q3.is w.heap.size 2 24 #[.int .i64 (n : Int), .slice A l.length c] (by simp) 0 (by decide) (.int .i64 (n : Int)) rfl
    have m2 := q3.is w.heap.size 2 24 #[.int .i64 (n : Int), .slice A l.length c] (by simp) 1 (by decide) (.slice A l.length c) rfl
    go_wp2_with fail
    refine (HDW.out _ (HNT.out _ q3.bl) (HTB.out _ q3.bl) (HBS.out _ q3.bl)).mono ?_
    rintro e w4 ⟨rfl, hb4⟩
    have q4 := (q3.below hb4).new #[.int .u64 (Cs.lo a1 : Int), .int .u64 (Cs.hi a1 : Int)] 30 w4.heap.size 2 rfl rfl
    clear m1 m2 hb4
    have m1 := q4.is w.heap.size 2 24 #[.int .i64 (n : Int), .slice A l.length c] (by simp) 0 (by decide) (.int .i64 (n : Int)) rfl
    have m2 := q4.is w.heap.size 2 24 #[.int .i64 (n : Int), .slice A l.length c] (by simp) 1 (by decide) (.slice A l.length c) rfl
    have p1 := q4.is0 0 (by decide) (.int .u64 (Cs.lo a1 : Int)) rfl
    have p2 := q4.is0 1 (by decide) (.int .u64 (Cs.hi a1 : Int)) rfl
    go_wp2_with fail
    refine (HEV.out _ (HNT.out _ q4.bl)).mono ?_
    rintro e w5 ⟨rfl, hb5⟩
    replace q4 := q4.below hb5
    clear m1 m2 p1 p2 hb5
    go_wp2_with fail
    refine (HWS.out _ (HRL.out _ q4.bl) (HRH.out _ q4.bl)).mono ?_
    intro e w6 hws
    rcases hcase with hcase | ⟨k1, k2, hcase⟩
    · obtain ⟨hb6, Xl, Xh, xm, xk, xc, xd, rfl⟩ := wt_no hws hcase
      have q6 := q4.below hb6
      clear hws hb6 q4
      go_wp2_with fail
      refine (works_any _ (HTB.out _ (q6.alloc (.cells #[.slice Xl xm xc, .slice Xh xk xd] 46)).bl)).mono ?_
      rintro e w9 ⟨rfl, hb9⟩
      have hb := Cs.Below.trans' (q6.alloc (.cells #[.slice Xl xm xc, .slice Xh xk xd] 46)).bl hb9 (q6.alloc (.cells #[.slice Xl xm xc, .slice Xh xk xd] 46)).bl.size
      go_wp2_with fail
      go_ret
      exact ⟨rfl, hb⟩
    · obtain ⟨hb6, Bl, Bh, dl, dh, rfl, hdl, hdh, hrl, hrh⟩ := wt_yes hws k1 k2
      have q6 := ((q4.below hb6).tail).new #[.slice Bl lo.length dl, .slice Bh hi.length dh] 46 w6.heap.size 2 rfl rfl
      replace hrl := (hrl.alloc (Nat.le_refl _) (.cells #[.slice Bl lo.length dl, .slice Bh hi.length dh] 46)).more (B' := (w6.alloc (.cells #[.slice Bl lo.length dl, .slice Bh hi.length dh] 46)).heap.size) (by simp)
      replace hrh := (hrh.alloc (Nat.le_refl _) (.cells #[.slice Bl lo.length dl, .slice Bh hi.length dh] 46)).more (B' := (w6.alloc (.cells #[.slice Bl lo.length dl, .slice Bh hi.length dh] 46)).heap.size) (by simp)
      have m1 := q6.is w.heap.size 2 24 #[.int .i64 (n : Int), .slice A l.length c] (by simp) 0 (by decide) (.int .i64 (n : Int)) rfl
      have m2 := q6.is w.heap.size 2 24 #[.int .i64 (n : Int), .slice A l.length c] (by simp) 1 (by decide) (.slice A l.length c) rfl
      have p1 := q6.is0 0 (by decide) (.slice Bl lo.length dl) rfl
      have p2 := q6.is0 1 (by decide) (.slice Bh hi.length dh) rfl
      clear hws hb6 q4
      rcases hcase with ⟨h140, hcase⟩ | ⟨h140, hcase⟩
      · rw [h140]
        go_wp2_with fail
        refine (works_any _ (HTB.out _ q6.bl)).mono ?_
        rintro e w9 ⟨rfl, hb9⟩
        have hb := Cs.Below.trans' q6.bl hb9 q6.bl.size
        go_wp2_with fail
        go_ret
        exact ⟨rfl, hb⟩
      · rw [h140]
        go_wp2_with fail
        refine (HWG.out _ _ _ _ _ k1 k2 hdl hdh (HNT.out _ q6.bl) (HTB.out _ q6.bl) hrl hrh (HBS.out _ q6.bl)).mono ?_
        rintro e w7 ⟨rfl, hb7⟩
        have q7 := ((q6.below hb7).tail).new #[.int .u64 (Cs.lo a2 : Int), .int .u64 (Cs.hi a2 : Int)] 30 w7.heap.size 2 rfl rfl
        clear m1 m2 p1 p2 hb7 q6 hrl hrh
        rcases hcase with hbad | ⟨hg1, hg2, hgood⟩
        · rcases hbad with hbad | ⟨hbad, hb2⟩
          · have d5 : (e2 == 0) = false := beq_eq_false_iff_ne.2 hbad
            have d6 : (e2 != 0) = true := by simp [bne, d5]
            go_wp2_with fail
            refine (works_any _ (HTB.out _ q7.bl)).mono ?_
            rintro e w9 ⟨rfl, hb9⟩
            have hb := Cs.Below.trans' q7.bl hb9 q7.bl.size
            go_wp2_with fail
            go_ret
            exact ⟨rfl, hb⟩
          · subst hbad
            subst hb2
            go_wp2_with fail
            refine (works_any _ (HTB.out _ q7.bl)).mono ?_
            rintro e w9 ⟨rfl, hb9⟩
            have hb := Cs.Below.trans' q7.bl hb9 q7.bl.size
            go_wp2_with fail
            go_ret
            exact ⟨rfl, hb⟩
        · subst hg1
          subst hg2
          obtain ⟨g1, g2, ga, gb, gc⟩ := hgood
          have m1 := q7.is w.heap.size 2 24 #[.int .i64 (n : Int), .slice A l.length c] (by simp) 0 (by decide) (.int .i64 (n : Int)) rfl
          have m2 := q7.is w.heap.size 2 24 #[.int .i64 (n : Int), .slice A l.length c] (by simp) 1 (by decide) (.slice A l.length c) rfl
          have p1 := q7.is0 0 (by decide) (.int .u64 (Cs.lo a2 : Int)) rfl
          have p2 := q7.is0 1 (by decide) (.int .u64 (Cs.hi a2 : Int)) rfl
          have b1 : ((lo.length : Int) == (n : Int) + 1) = true := beq_iff_eq.2 (by omega)
          have b2 : ((hi.length : Int) == (n : Int) + 1) = true := beq_iff_eq.2 (by omega)
          have b3 : ((lo.length : Int) != (n : Int) + 1) = false := by simp [bne, b1]
          have b4 : ((hi.length : Int) != (n : Int) + 1) = false := by simp [bne, b2]
          have hev2 := HEV2.out ga gb
          have HEV3 := Lib.hid hev2
          have GC := Lib.hid gc
          clear hev2 gc
          go_wp2_with fail
          refine (HEV3.out _ (HNT.out _ q7.bl)).mono ?_
          rintro e w8 ⟨rfl, hb8⟩
          have q8 := q7.below hb8
          clear m1 m2 p1 p2 hb8 q7
          have m1 := q8.is w.heap.size 2 24 #[.int .i64 (n : Int), .slice A l.length c] (by simp) 0 (by decide) (.int .i64 (n : Int)) rfl
          go_wp2_with fail
          clear m1
          go_loopw [17, 18] (fun t x wr => ∃ (v : Nat), 1 ≤ v ∧ v ≤ n + 1 ∧ t = .int .i64 (v : Int) ∧ Bag w w w.heap.size [(w7.heap.size, 30, 2, #[.int .u64 (Cs.lo a2 : Int), .int .u64 (Cs.hi a2 : Int)]), (w.heap.size, 24, 2, #[.int .i64 (n : Int), .slice A l.length c])] wr) (fun t _ _ => n + 1 - (intOf t).toNat)
          case atStart => exact ⟨1, Nat.le_refl _, by omega, rfl, q8⟩
          case round =>
            clear q8
            obtain ⟨v, hv1, hv2, rfl, q9⟩ := hrel
            have m1 := q9.is w.heap.size 2 24 #[.int .i64 (n : Int), .slice A l.length c] (by simp) 0 (by decide) (.int .i64 (n : Int)) rfl
            have p1 := q9.is0 0 (by decide) (.int .u64 (Cs.lo a2 : Int)) rfl
            rcases Nat.lt_or_ge n v with hvn | hvn
            · have d7 : decide ((v : Int) ≤ (n : Int)) = false := decide_eq_false (by omega)
              go_wp2_with fail
              refine (works_any _ (HTB.out _ q9.bl)).mono ?_
              rintro e w9 ⟨rfl, hb9⟩
              have hb := Cs.Below.trans' q9.bl hb9 q9.bl.size
              go_wp2_with fail
              go_ret
              exact ⟨rfl, hb⟩
            · have d7 : decide ((v : Int) ≤ (n : Int)) = true := decide_eq_true (by omega)
              obtain ⟨ba, oa, rfl, hba, hca⟩ := (HRL.out _ q9.bl) (by omega)
              obtain ⟨bh, oh, rfl, hbh, hch⟩ := (HRH.out _ q9.bl) (by omega)
              have c1 := hca v (by omega)
              have c2 := hch v (by omega)
              unfold strF at c1 c2
              have i1 : (0 : Int) ≤ (v : Int) := by omega
              have i2 : (v : Int) < (lo.length : Int) := by omega
              have i3 : (v : Int) < (hi.length : Int) := by omega
              have hgc := GC.out (v - 1) (by omega)
              rw [show v - 1 + 1 = v by omega] at hgc
              clear hca hch
              generalize lo.getD v ⟨#[]⟩ = sl at *
              generalize hi.getD v ⟨#[]⟩ = sh at *
              have hbit := bit_lo a2 (v - 1) (by omega)
              cases hb : a2.testBit (v - 1)
              · rw [hb] at hbit hgc
                have hse : (sl.toList == [48]) = false := beq_eq_false_iff_ne.2 fun e => hgc (by rw [if_neg (by decide)]; exact toList_inj (e.trans (by decide +kernel)))
                go_wp2_with fail
                exact ⟨⟨v + 1, by omega, by omega, by go_num, q9⟩, by simp [intOf]; omega⟩
              · rw [hb] at hbit hgc
                have hse : (sh.toList == [48]) = false := beq_eq_false_iff_ne.2 fun e => hgc (by rw [if_pos rfl]; exact toList_inj (e.trans (by decide +kernel)))
                go_wp2_with fail
                exact ⟨⟨v + 1, by omega, by omega, by go_num, q9⟩, by simp [intOf]; omega⟩
  · by_cases hd0 : e1 = 0
    · have ho : o1 = false := by
        cases o1
        · rfl
        · exact absurd ⟨hd0, rfl⟩ hd
      subst hd0
      subst ho
      clear hev hd
      go_enter Tryz.func7, Tryz.ntmps7
      go_wp2_with fail
      refine (HFW.out _ (HNT.out _ q0.bl)).mono ?_
      rintro e w1 ⟨rfl, hb1⟩
      have q1 := q0.below hb1
      have m1 := q1.is w.heap.size 2 24 #[.int .i64 (n : Int), .slice A l.length c] (by simp) 0 (by decide) (.int .i64 (n : Int)) rfl
      have m2 := q1.is w.heap.size 2 24 #[.int .i64 (n : Int), .slice A l.length c] (by simp) 1 (by decide) (.slice A l.length c) rfl
      clear hb1
      go_wp2_with fail
      refine (HCK.out _ (HNT.out _ q1.bl)).mono ?_
      rintro e w2 ⟨rfl, hb2⟩
      have q2 := q1.below hb2
      clear m1 m2 hb2
      have m1 := q2.is w.heap.size 2 24 #[.int .i64 (n : Int), .slice A l.length c] (by simp) 0 (by decide) (.int .i64 (n : Int)) rfl
      have m2 := q2.is w.heap.size 2 24 #[.int .i64 (n : Int), .slice A l.length c] (by simp) 1 (by decide) (.slice A l.length c) rfl
      go_wp2_with fail
      refine (HAP.out _ (HNT.out _ q2.bl)).mono ?_
      rintro e w3 ⟨rfl, hb3⟩
      have q3 := q2.below hb3
      clear m1 m2 hb3
      have m1 := q3.is w.heap.size 2 24 #[.int .i64 (n : Int), .slice A l.length c] (by simp) 0 (by decide) (.int .i64 (n : Int)) rfl
      have m2 := q3.is w.heap.size 2 24 #[.int .i64 (n : Int), .slice A l.length c] (by simp) 1 (by decide) (.slice A l.length c) rfl
      go_wp2_with fail
      refine (HDW.out _ (HNT.out _ q3.bl) (HTB.out _ q3.bl) (HBS.out _ q3.bl)).mono ?_
      rintro e w4 ⟨rfl, hb4⟩
      have q4 := (q3.below hb4).new #[.int .u64 (Cs.lo a1 : Int), .int .u64 (Cs.hi a1 : Int)] 30 w4.heap.size 2 rfl rfl
      clear m1 m2 hb4
      have m1 := q4.is w.heap.size 2 24 #[.int .i64 (n : Int), .slice A l.length c] (by simp) 0 (by decide) (.int .i64 (n : Int)) rfl
      have m2 := q4.is w.heap.size 2 24 #[.int .i64 (n : Int), .slice A l.length c] (by simp) 1 (by decide) (.slice A l.length c) rfl
      have p1 := q4.is0 0 (by decide) (.int .u64 (Cs.lo a1 : Int)) rfl
      have p2 := q4.is0 1 (by decide) (.int .u64 (Cs.hi a1 : Int)) rfl
      go_wp2_with fail
      clear m1 m2 p1 p2
      refine (HWS.out _ (HRL.out _ q4.bl) (HRH.out _ q4.bl)).mono ?_
      intro e w6 hws
      rcases hcase with hcase | ⟨k1, k2, hcase⟩
      · obtain ⟨hb6, Xl, Xh, xm, xk, xc, xd, rfl⟩ := wt_no hws hcase
        have q6 := q4.below hb6
        clear hws hb6 q4
        go_wp2_with fail
        refine (works_any _ (HTB.out _ (q6.alloc (.cells #[.slice Xl xm xc, .slice Xh xk xd] 46)).bl)).mono ?_
        rintro e w9 ⟨rfl, hb9⟩
        have hb := Cs.Below.trans' (q6.alloc (.cells #[.slice Xl xm xc, .slice Xh xk xd] 46)).bl hb9 (q6.alloc (.cells #[.slice Xl xm xc, .slice Xh xk xd] 46)).bl.size
        go_wp2_with fail
        go_ret
        exact ⟨rfl, hb⟩
      · obtain ⟨hb6, Bl, Bh, dl, dh, rfl, hdl, hdh, hrl, hrh⟩ := wt_yes hws k1 k2
        have q6 := ((q4.below hb6).tail).new #[.slice Bl lo.length dl, .slice Bh hi.length dh] 46 w6.heap.size 2 rfl rfl
        replace hrl := (hrl.alloc (Nat.le_refl _) (.cells #[.slice Bl lo.length dl, .slice Bh hi.length dh] 46)).more (B' := (w6.alloc (.cells #[.slice Bl lo.length dl, .slice Bh hi.length dh] 46)).heap.size) (by simp)
        replace hrh := (hrh.alloc (Nat.le_refl _) (.cells #[.slice Bl lo.length dl, .slice Bh hi.length dh] 46)).more (B' := (w6.alloc (.cells #[.slice Bl lo.length dl, .slice Bh hi.length dh] 46)).heap.size) (by simp)
        have m1 := q6.is w.heap.size 2 24 #[.int .i64 (n : Int), .slice A l.length c] (by simp) 0 (by decide) (.int .i64 (n : Int)) rfl
        have m2 := q6.is w.heap.size 2 24 #[.int .i64 (n : Int), .slice A l.length c] (by simp) 1 (by decide) (.slice A l.length c) rfl
        have p1 := q6.is0 0 (by decide) (.slice Bl lo.length dl) rfl
        have p2 := q6.is0 1 (by decide) (.slice Bh hi.length dh) rfl
        clear hws hb6 q4
        rcases hcase with ⟨h140, hcase⟩ | ⟨h140, hcase⟩
        · rw [h140]
          go_wp2_with fail
          refine (works_any _ (HTB.out _ q6.bl)).mono ?_
          rintro e w9 ⟨rfl, hb9⟩
          have hb := Cs.Below.trans' q6.bl hb9 q6.bl.size
          go_wp2_with fail
          go_ret
          exact ⟨rfl, hb⟩
        · rw [h140]
          go_wp2_with fail
          refine (HWG.out _ _ _ _ _ k1 k2 hdl hdh (HNT.out _ q6.bl) (HTB.out _ q6.bl) hrl hrh (HBS.out _ q6.bl)).mono ?_
          rintro e w7 ⟨rfl, hb7⟩
          have q7 := ((q6.below hb7).tail).new #[.int .u64 (Cs.lo a2 : Int), .int .u64 (Cs.hi a2 : Int)] 30 w7.heap.size 2 rfl rfl
          clear m1 m2 p1 p2 hb7 q6 hrl hrh
          rcases hcase with hbad | ⟨hg1, hg2, hgood⟩
          · rcases hbad with hbad | ⟨hbad, hb2⟩
            · have d5 : (e2 == 0) = false := beq_eq_false_iff_ne.2 hbad
              have d6 : (e2 != 0) = true := by simp [bne, d5]
              go_wp2_with fail
              refine (works_any _ (HTB.out _ q7.bl)).mono ?_
              rintro e w9 ⟨rfl, hb9⟩
              have hb := Cs.Below.trans' q7.bl hb9 q7.bl.size
              go_wp2_with fail
              go_ret
              exact ⟨rfl, hb⟩
            · subst hbad
              subst hb2
              go_wp2_with fail
              refine (works_any _ (HTB.out _ q7.bl)).mono ?_
              rintro e w9 ⟨rfl, hb9⟩
              have hb := Cs.Below.trans' q7.bl hb9 q7.bl.size
              go_wp2_with fail
              go_ret
              exact ⟨rfl, hb⟩
          · subst hg1
            subst hg2
            obtain ⟨g1, g2, ga, gb, gc⟩ := hgood
            have m1 := q7.is w.heap.size 2 24 #[.int .i64 (n : Int), .slice A l.length c] (by simp) 0 (by decide) (.int .i64 (n : Int)) rfl
            have m2 := q7.is w.heap.size 2 24 #[.int .i64 (n : Int), .slice A l.length c] (by simp) 1 (by decide) (.slice A l.length c) rfl
            have p1 := q7.is0 0 (by decide) (.int .u64 (Cs.lo a2 : Int)) rfl
            have p2 := q7.is0 1 (by decide) (.int .u64 (Cs.hi a2 : Int)) rfl
            have b1 : ((lo.length : Int) == (n : Int) + 1) = true := beq_iff_eq.2 (by omega)
            have b2 : ((hi.length : Int) == (n : Int) + 1) = true := beq_iff_eq.2 (by omega)
            have b3 : ((lo.length : Int) != (n : Int) + 1) = false := by simp [bne, b1]
            have b4 : ((hi.length : Int) != (n : Int) + 1) = false := by simp [bne, b2]
            have hev2 := HEV2.out ga gb
            have HEV3 := Lib.hid hev2
            have GC := Lib.hid gc
            clear hev2 gc
            go_wp2_with fail
            refine (HEV3.out _ (HNT.out _ q7.bl)).mono ?_
            rintro e w8 ⟨rfl, hb8⟩
            have q8 := q7.below hb8
            clear m1 m2 p1 p2 hb8 q7
            have m1 := q8.is w.heap.size 2 24 #[.int .i64 (n : Int), .slice A l.length c] (by simp) 0 (by decide) (.int .i64 (n : Int)) rfl
            go_wp2_with fail
            clear m1
            go_loopw [17, 18] (fun t x wr => ∃ (v : Nat), 1 ≤ v ∧ v ≤ n + 1 ∧ t = .int .i64 (v : Int) ∧ Bag w w w.heap.size [(w7.heap.size, 30, 2, #[.int .u64 (Cs.lo a2 : Int), .int .u64 (Cs.hi a2 : Int)]), (w.heap.size, 24, 2, #[.int .i64 (n : Int), .slice A l.length c])] wr) (fun t _ _ => n + 1 - (intOf t).toNat)
            case atStart => exact ⟨1, Nat.le_refl _, by omega, rfl, q8⟩
            case round =>
              clear q8
              obtain ⟨v, hv1, hv2, rfl, q9⟩ := hrel
              have m1 := q9.is w.heap.size 2 24 #[.int .i64 (n : Int), .slice A l.length c] (by simp) 0 (by decide) (.int .i64 (n : Int)) rfl
              have p1 := q9.is0 0 (by decide) (.int .u64 (Cs.lo a2 : Int)) rfl
              rcases Nat.lt_or_ge n v with hvn | hvn
              · have d7 : decide ((v : Int) ≤ (n : Int)) = false := decide_eq_false (by omega)
                go_wp2_with fail
                refine (works_any _ (HTB.out _ q9.bl)).mono ?_
                rintro e w9 ⟨rfl, hb9⟩
                have hb := Cs.Below.trans' q9.bl hb9 q9.bl.size
                go_wp2_with fail
                go_ret
                exact ⟨rfl, hb⟩
              · have d7 : decide ((v : Int) ≤ (n : Int)) = true := decide_eq_true (by omega)
                obtain ⟨ba, oa, rfl, hba, hca⟩ := (HRL.out _ q9.bl) (by omega)
                obtain ⟨bh, oh, rfl, hbh, hch⟩ := (HRH.out _ q9.bl) (by omega)
                have c1 := hca v (by omega)
                have c2 := hch v (by omega)
                unfold strF at c1 c2
                have i1 : (0 : Int) ≤ (v : Int) := by omega
                have i2 : (v : Int) < (lo.length : Int) := by omega
                have i3 : (v : Int) < (hi.length : Int) := by omega
                have hgc := GC.out (v - 1) (by omega)
                rw [show v - 1 + 1 = v by omega] at hgc
                clear hca hch
                generalize lo.getD v ⟨#[]⟩ = sl at *
                generalize hi.getD v ⟨#[]⟩ = sh at *
                have hbit := bit_lo a2 (v - 1) (by omega)
                cases hb : a2.testBit (v - 1)
                · rw [hb] at hbit hgc
                  have hse : (sl.toList == [48]) = false := beq_eq_false_iff_ne.2 fun e => hgc (by rw [if_neg (by decide)]; exact toList_inj (e.trans (by decide +kernel)))
                  go_wp2_with fail
                  exact ⟨⟨v + 1, by omega, by omega, by go_num, q9⟩, by simp [intOf]; omega⟩
                · rw [hb] at hbit hgc
                  have hse : (sh.toList == [48]) = false := beq_eq_false_iff_ne.2 fun e => hgc (by rw [if_pos rfl]; exact toList_inj (e.trans (by decide +kernel)))
                  go_wp2_with fail
                  exact ⟨⟨v + 1, by omega, by omega, by go_num, q9⟩, by simp [intOf]; omega⟩
    · have d2 : (e1 == 0) = false := beq_eq_false_iff_ne.2 hd0
      clear hev hd hd0
      go_enter Tryz.func7, Tryz.ntmps7
      go_wp2_with fail
      refine (HFW.out _ (HNT.out _ q0.bl)).mono ?_
      rintro e w1 ⟨rfl, hb1⟩
      have q1 := q0.below hb1
      have m1 := q1.is w.heap.size 2 24 #[.int .i64 (n : Int), .slice A l.length c] (by simp) 0 (by decide) (.int .i64 (n : Int)) rfl
      have m2 := q1.is w.heap.size 2 24 #[.int .i64 (n : Int), .slice A l.length c] (by simp) 1 (by decide) (.slice A l.length c) rfl
      clear hb1
      go_wp2_with fail
      refine (HCK.out _ (HNT.out _ q1.bl)).mono ?_
      rintro e w2 ⟨rfl, hb2⟩
      have q2 := q1.below hb2
      clear m1 m2 hb2
      have m1 := q2.is w.heap.size 2 24 #[.int .i64 (n : Int), .slice A l.length c] (by simp) 0 (by decide) (.int .i64 (n : Int)) rfl
      have m2 := q2.is w.heap.size 2 24 #[.int .i64 (n : Int), .slice A l.length c] (by simp) 1 (by decide) (.slice A l.length c) rfl
      go_wp2_with fail
      refine (HAP.out _ (HNT.out _ q2.bl)).mono ?_
      rintro e w3 ⟨rfl, hb3⟩
      have q3 := q2.below hb3
      clear m1 m2 hb3
      have m1 := q3.is w.heap.size 2 24 #[.int .i64 (n : Int), .slice A l.length c] (by simp) 0 (by decide) (.int .i64 (n : Int)) rfl
      have m2 := q3.is w.heap.size 2 24 #[.int .i64 (n : Int), .slice A l.length c] (by simp) 1 (by decide) (.slice A l.length c) rfl
      go_wp2_with fail
      refine (HDW.out _ (HNT.out _ q3.bl) (HTB.out _ q3.bl) (HBS.out _ q3.bl)).mono ?_
      rintro e w4 ⟨rfl, hb4⟩
      have q4 := (q3.below hb4).new #[.int .u64 (Cs.lo a1 : Int), .int .u64 (Cs.hi a1 : Int)] 30 w4.heap.size 2 rfl rfl
      clear m1 m2 hb4
      have m1 := q4.is w.heap.size 2 24 #[.int .i64 (n : Int), .slice A l.length c] (by simp) 0 (by decide) (.int .i64 (n : Int)) rfl
      have m2 := q4.is w.heap.size 2 24 #[.int .i64 (n : Int), .slice A l.length c] (by simp) 1 (by decide) (.slice A l.length c) rfl
      have p1 := q4.is0 0 (by decide) (.int .u64 (Cs.lo a1 : Int)) rfl
      have p2 := q4.is0 1 (by decide) (.int .u64 (Cs.hi a1 : Int)) rfl
      go_wp2_with fail
      clear m1 m2 p1 p2
      refine (HWS.out _ (HRL.out _ q4.bl) (HRH.out _ q4.bl)).mono ?_
      intro e w6 hws
      rcases hcase with hcase | ⟨k1, k2, hcase⟩
      · obtain ⟨hb6, Xl, Xh, xm, xk, xc, xd, rfl⟩ := wt_no hws hcase
        have q6 := q4.below hb6
        clear hws hb6 q4
        go_wp2_with fail
        refine (works_any _ (HTB.out _ (q6.alloc (.cells #[.slice Xl xm xc, .slice Xh xk xd] 46)).bl)).mono ?_
        rintro e w9 ⟨rfl, hb9⟩
        have hb := Cs.Below.trans' (q6.alloc (.cells #[.slice Xl xm xc, .slice Xh xk xd] 46)).bl hb9 (q6.alloc (.cells #[.slice Xl xm xc, .slice Xh xk xd] 46)).bl.size
        go_wp2_with fail
        go_ret
        exact ⟨rfl, hb⟩
      · obtain ⟨hb6, Bl, Bh, dl, dh, rfl, hdl, hdh, hrl, hrh⟩ := wt_yes hws k1 k2
        have q6 := ((q4.below hb6).tail).new #[.slice Bl lo.length dl, .slice Bh hi.length dh] 46 w6.heap.size 2 rfl rfl
        replace hrl := (hrl.alloc (Nat.le_refl _) (.cells #[.slice Bl lo.length dl, .slice Bh hi.length dh] 46)).more (B' := (w6.alloc (.cells #[.slice Bl lo.length dl, .slice Bh hi.length dh] 46)).heap.size) (by simp)
        replace hrh := (hrh.alloc (Nat.le_refl _) (.cells #[.slice Bl lo.length dl, .slice Bh hi.length dh] 46)).more (B' := (w6.alloc (.cells #[.slice Bl lo.length dl, .slice Bh hi.length dh] 46)).heap.size) (by simp)
        have m1 := q6.is w.heap.size 2 24 #[.int .i64 (n : Int), .slice A l.length c] (by simp) 0 (by decide) (.int .i64 (n : Int)) rfl
        have m2 := q6.is w.heap.size 2 24 #[.int .i64 (n : Int), .slice A l.length c] (by simp) 1 (by decide) (.slice A l.length c) rfl
        have p1 := q6.is0 0 (by decide) (.slice Bl lo.length dl) rfl
        have p2 := q6.is0 1 (by decide) (.slice Bh hi.length dh) rfl
        clear hws hb6 q4
        rcases hcase with ⟨h140, hcase⟩ | ⟨h140, hcase⟩
        · rw [h140]
          go_wp2_with fail
          refine (works_any _ (HTB.out _ q6.bl)).mono ?_
          rintro e w9 ⟨rfl, hb9⟩
          have hb := Cs.Below.trans' q6.bl hb9 q6.bl.size
          go_wp2_with fail
          go_ret
          exact ⟨rfl, hb⟩
        · rw [h140]
          go_wp2_with fail
          refine (HWG.out _ _ _ _ _ k1 k2 hdl hdh (HNT.out _ q6.bl) (HTB.out _ q6.bl) hrl hrh (HBS.out _ q6.bl)).mono ?_
          rintro e w7 ⟨rfl, hb7⟩
          have q7 := ((q6.below hb7).tail).new #[.int .u64 (Cs.lo a2 : Int), .int .u64 (Cs.hi a2 : Int)] 30 w7.heap.size 2 rfl rfl
          clear m1 m2 p1 p2 hb7 q6 hrl hrh
          rcases hcase with hbad | ⟨hg1, hg2, hgood⟩
          · rcases hbad with hbad | ⟨hbad, hb2⟩
            · have d5 : (e2 == 0) = false := beq_eq_false_iff_ne.2 hbad
              have d6 : (e2 != 0) = true := by simp [bne, d5]
              go_wp2_with fail
              refine (works_any _ (HTB.out _ q7.bl)).mono ?_
              rintro e w9 ⟨rfl, hb9⟩
              have hb := Cs.Below.trans' q7.bl hb9 q7.bl.size
              go_wp2_with fail
              go_ret
              exact ⟨rfl, hb⟩
            · subst hbad
              subst hb2
              go_wp2_with fail
              refine (works_any _ (HTB.out _ q7.bl)).mono ?_
              rintro e w9 ⟨rfl, hb9⟩
              have hb := Cs.Below.trans' q7.bl hb9 q7.bl.size
              go_wp2_with fail
              go_ret
              exact ⟨rfl, hb⟩
          · subst hg1
            subst hg2
            obtain ⟨g1, g2, ga, gb, gc⟩ := hgood
            have m1 := q7.is w.heap.size 2 24 #[.int .i64 (n : Int), .slice A l.length c] (by simp) 0 (by decide) (.int .i64 (n : Int)) rfl
            have m2 := q7.is w.heap.size 2 24 #[.int .i64 (n : Int), .slice A l.length c] (by simp) 1 (by decide) (.slice A l.length c) rfl
            have p1 := q7.is0 0 (by decide) (.int .u64 (Cs.lo a2 : Int)) rfl
            have p2 := q7.is0 1 (by decide) (.int .u64 (Cs.hi a2 : Int)) rfl
            have b1 : ((lo.length : Int) == (n : Int) + 1) = true := beq_iff_eq.2 (by omega)
            have b2 : ((hi.length : Int) == (n : Int) + 1) = true := beq_iff_eq.2 (by omega)
            have b3 : ((lo.length : Int) != (n : Int) + 1) = false := by simp [bne, b1]
            have b4 : ((hi.length : Int) != (n : Int) + 1) = false := by simp [bne, b2]
            have hev2 := HEV2.out ga gb
            have HEV3 := Lib.hid hev2
            have GC := Lib.hid gc
            clear hev2 gc
            go_wp2_with fail
            refine (HEV3.out _ (HNT.out _ q7.bl)).mono ?_
            rintro e w8 ⟨rfl, hb8⟩
            have q8 := q7.below hb8
            clear m1 m2 p1 p2 hb8 q7
            have m1 := q8.is w.heap.size 2 24 #[.int .i64 (n : Int), .slice A l.length c] (by simp) 0 (by decide) (.int .i64 (n : Int)) rfl
            go_wp2_with fail
            clear m1
            go_loopw [17, 18] (fun t x wr => ∃ (v : Nat), 1 ≤ v ∧ v ≤ n + 1 ∧ t = .int .i64 (v : Int) ∧ Bag w w w.heap.size [(w7.heap.size, 30, 2, #[.int .u64 (Cs.lo a2 : Int), .int .u64 (Cs.hi a2 : Int)]), (w.heap.size, 24, 2, #[.int .i64 (n : Int), .slice A l.length c])] wr) (fun t _ _ => n + 1 - (intOf t).toNat)
            case atStart => exact ⟨1, Nat.le_refl _, by omega, rfl, q8⟩
            case round =>
              clear q8
              obtain ⟨v, hv1, hv2, rfl, q9⟩ := hrel
              have m1 := q9.is w.heap.size 2 24 #[.int .i64 (n : Int), .slice A l.length c] (by simp) 0 (by decide) (.int .i64 (n : Int)) rfl
              have p1 := q9.is0 0 (by decide) (.int .u64 (Cs.lo a2 : Int)) rfl
              rcases Nat.lt_or_ge n v with hvn | hvn
              · have d7 : decide ((v : Int) ≤ (n : Int)) = false := decide_eq_false (by omega)
                go_wp2_with fail
                refine (works_any _ (HTB.out _ q9.bl)).mono ?_
                rintro e w9 ⟨rfl, hb9⟩
                have hb := Cs.Below.trans' q9.bl hb9 q9.bl.size
                go_wp2_with fail
                go_ret
                exact ⟨rfl, hb⟩
              · have d7 : decide ((v : Int) ≤ (n : Int)) = true := decide_eq_true (by omega)
                obtain ⟨ba, oa, rfl, hba, hca⟩ := (HRL.out _ q9.bl) (by omega)
                obtain ⟨bh, oh, rfl, hbh, hch⟩ := (HRH.out _ q9.bl) (by omega)
                have c1 := hca v (by omega)
                have c2 := hch v (by omega)
                unfold strF at c1 c2
                have i1 : (0 : Int) ≤ (v : Int) := by omega
                have i2 : (v : Int) < (lo.length : Int) := by omega
                have i3 : (v : Int) < (hi.length : Int) := by omega
                have hgc := GC.out (v - 1) (by omega)
                rw [show v - 1 + 1 = v by omega] at hgc
                clear hca hch
                generalize lo.getD v ⟨#[]⟩ = sl at *
                generalize hi.getD v ⟨#[]⟩ = sh at *
                have hbit := bit_lo a2 (v - 1) (by omega)
                cases hb : a2.testBit (v - 1)
                · rw [hb] at hbit hgc
                  have hse : (sl.toList == [48]) = false := beq_eq_false_iff_ne.2 fun e => hgc (by rw [if_neg (by decide)]; exact toList_inj (e.trans (by decide +kernel)))
                  go_wp2_with fail
                  exact ⟨⟨v + 1, by omega, by omega, by go_num, q9⟩, by simp [intOf]; omega⟩
                · rw [hb] at hbit hgc
                  have hse : (sh.toList == [48]) = false := beq_eq_false_iff_ne.2 fun e => hgc (by rw [if_pos rfl]; exact toList_inj (e.trans (by decide +kernel)))
                  go_wp2_with fail
                  exact ⟨⟨v + 1, by omega, by omega, by go_num, q9⟩, by simp [intOf]; omega⟩
theorem model_any (w : World) (N : Nt) (A Al Ah Ab : Option Addr) (c cl ch cb : Nat) (lo hi : List ByteArray) (bs : List Nat) (hlen : N.l.length ≤ 140737488355328) (hN : NtAt w w.heap.size A N.l) (hT : Tab w)
    (hl1 : lo.length ≤ 1000000000000) (hl2 : hi.length ≤ 1000000000000) (hrl : Rd w w.heap.size Al lo.length (strF lo)) (hrh : Rd w w.heap.size Ah hi.length (strF hi)) (hs1 : ∀ i, (lo.getD i ⟨#[]⟩).size ≤ maxLen) (hs2 : ∀ i, (hi.getD i ⟨#[]⟩).size ≤ maxLen)
    (hbs : Rd w w.heap.size Ab bs.length (byF bs)) (hb8 : ∀ i, bs.getD i 0 < 256) :
    Calls Tryz.prog 7 #[ntV N A c, .slice Al lo.length cl, .slice Ah hi.length ch, .slice Ab bs.length cb] w fun e w' => e = .returned (.bool true) ∧ Below w.heap.size w w' := by
  cases hf : fewS N bs.length
  · exact model_no w N A Al Ah Ab c cl ch cb lo.length hi.length bs.length hlen hN hT (.inl hf)
  · by_cases h10 : 10 < N.n
    · exact model_no w N A Al Ah Ab c cl ch cb lo.length hi.length bs.length hlen hN hT (.inr (.inl ⟨hf, h10⟩))
    · by_cases hc : cchk N = 0
      · obtain ⟨hn0, hn1, _, _⟩ := vld_bounds (cchk_vld hc)
        cases ha : ap2 N N.n.toNat
        · exact model_no w N A Al Ah Ab c cl ch cb lo.length hi.length bs.length hlen hN hT (.inr (.inr (.inr ⟨hf, by omega, hc, ha⟩)))
        · exact model_go w N A Al Ah Ab c cl ch cb N.n.toNat lo hi bs hlen hN hT hl1 hl2 hrl hrh hs1 hs2 hbs hb8 hf (by omega) (by omega) hc ha
      · exact model_no w N A Al Ah Ab c cl ch cb lo.length hi.length bs.length hlen hN hT (.inr (.inr (.inl ⟨hf, by omega, hc⟩)))
end Go.Proofs.YtgnobohfnhpkdaaGreatDoor
