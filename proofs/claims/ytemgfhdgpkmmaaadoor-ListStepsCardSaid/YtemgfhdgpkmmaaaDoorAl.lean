/- The walk of ListAll. -/
import Derived.Test.YtemgfhdgpkmmaaaDoorH4
set_option linter.unusedSimpArgs false
set_option linter.unusedVariables false
open Go Go.RowKit Cs
namespace Go.Proofs.YtemgfhdgpkmmaaaDoor
theorem light_slim {N : Nt} {m : Nat} (h : lightB N m = true) : slim N.l = true ∧ N.l.length ≤ m := by
  unfold lightB at h
  simp only [Bool.and_eq_true, decide_eq_true_eq] at h
  exact h
theorem lerr0 {N : Nt} (hv : vld N = true) (hd : dcmp N = true) : lerr N 0 = 0 := by
  unfold lerr
  rw [hv, hd]
  have : minus 0 (allTo N.n) = 0 := by unfold minus; simp
  rw [decide_eq_true this]; rfl
set_option maxRecDepth 100000 in
set_option maxHeartbeats 4000000 in
theorem all_main (w : World) (N : Nt) (A : Option Addr) (c n : Nat) (hn : N.n = (n : Int)) (hn9 : n ≤ 9) (hN : NtAt w w.heap.size A N.l) (hL : lightB N 100 = true) (hv : vld N = true) (hd : dcmp N = true) (hT : Tab w) :
    Calls Tryd.prog 8 #[ntV N A c] w fun e w' => e = .returned (.bool true) ∧ Below w.heap.size w w' := by
  obtain ⟨hn0, hn1, hl0, hl1⟩ := vld_bounds hv
  obtain ⟨hsl, hl100⟩ := light_slim hL
  obtain ⟨M, hM⟩ : ∃ M, 2 ^ n = M := ⟨_, rfl⟩
  have hM1 : 1 ≤ M := by rw [← hM]; exact Nat.one_le_two_pow
  have hM2 : M ≤ 512 := by rw [← hM]; exact Nat.le_trans (Nat.pow_le_pow_right (by decide) hn9) (by decide)
  have hle := lerr0 hv hd
  have hq0 : Bag w (w.alloc (.cells #[.int .i64 N.n, .slice A N.l.length c] 24)) (w.alloc (.cells #[.int .i64 N.n, .slice A N.l.length c] 24)).heap.size [(w.heap.size, 24, 2, #[.int .i64 N.n, .slice A N.l.length c])] (w.alloc (.cells #[.int .i64 N.n, .slice A N.l.length c] 24)) := ((Bag.start (Below.refl _ w)).new _ _ _ 2 rfl rfl).rebase
  obtain ⟨V, hV⟩ : ∃ V, w.alloc (.cells #[.int .i64 N.n, .slice A N.l.length c] 24) = V := ⟨_, rfl⟩
  rw [hV, hn] at hq0
  rw [hn] at hV
  have hwV : Below w.heap.size w V := by rw [← hV]; exact (Below.refl _ _).alloc (Nat.le_refl _) _
  have hnt : ∀ W, Below V.heap.size V W → NtAt W W.heap.size A N.l := fun W hb => ((hN.below hwV).below (hb.mono hwV.size)).more (Nat.le_trans hwV.size hb.size)
  have htb : ∀ W, Below V.heap.size V W → Tab W := fun W hb => (hT.below hwV).below hb
  have hli := fun W hb => light_any W N A c 100 (by omega) (hnt W hb) (by omega)
  have hdc := fun W hb => decomposable_g W N A c (by omega) (hnt W hb)
  have hnw : ∀ W, Below V.heap.size V W → Calls Tryd.prog 28 #[ntV N A c] W (NewOk W N) := fun W hb => (new_any W N A c (by omega) hsl (hnt W hb)).mono fun e w' h => h.elim (fun h => h.2) (fun h => absurd hle h.1)
  have hev := fun W hb k => eval_any W N A c (asg k n) (by omega) (hnt W hb)
  have hwk := fun W hb => works_any W (htb W hb)
  rw [hL] at hli
  rw [hv, hd] at hdc
  simp only [hv, Bool.true_and] at hev
  have has := fun (W : World) (k : Nat) (hk : k < 1024) => assign_any W k n hk (by omega)
  simp only [ntV, hn] at hli hdc hnw hev
  have hMi : IntKind.i64.wrap ((2 : Int) ^ n) = (M : Int) := by
    rw [← hM, Int.natCast_pow]; exact IntWalk.i64_in _ (by rw [show ((2 : Int) ^ n) = ((2 ^ n : Nat) : Int) by simp, hM]; omega)
  have htl := hT.lt
  have hwz := hwV.size
  have hit : ∀ k s, WkAt N n k s → k < M → evB N (asg k n) = true → s.next N = ⟨asg k n, true⟩ ∧ s.step N = ⟨asg k n, true, false⟩ := fun k s h h1 h2 => h.hit hv hd n hn (by omega) h2
  have hst : ∀ s, WkAt N n M s → s.next N = ⟨0, false⟩ ∧ s.step N = ⟨0, true, true⟩ := fun s h => WkAt.stop hv hd n hn (by rw [hM]; exact h)
  have hnx := fun W D g gl q A c s s' p k h hT hg hs hp hs' => next_at W N D g gl q A c s s' p k h hv hd hT hg hs hp hs'
  have HLI := Lib.hid hli
  have HDC := Lib.hid hdc
  have HNW := Lib.hid hnw
  have HEV := Lib.hid hev
  have HWK := Lib.hid hwk
  have HAS := Lib.hid has
  have HIT := Lib.hid hit
  have HST := Lib.hid hst
  have HNX := Lib.hid hnx
  have HV := Lib.hid hV
  have HMI := Lib.hid hMi
  have HTB := Lib.hid htb
  have HTL := Lib.hid (show ∀ g, V.heap.size ≤ g → 1 < g from fun g hg => by omega)
  clear hli hdc hnw hev hwk has hit hst hM hV hn0 hn1 hle hnt htb hwV hT hv hd hL hMi hnx htl hwz hsl
  simp only [ntV, hn]
  go_enter Tryd.func8, Tryd.ntmps8
  go_wp2_with fail
  rw [HV.out]
  refine (HLI.out _ hq0.base).mono ?_
  rintro e w5 ⟨rfl, hb5⟩
  have q1 := hq0.below hb5
  clear hq0 hb5
  have n1 := q1.is0 0 (by decide) (.int .i64 (n : Int)) rfl
  have n2 := q1.is0 1 (by decide) (.slice A N.l.length c) rfl
  go_wp2_with fail
  refine (HDC.out _ q1.base).mono ?_
  rintro e w6 ⟨rfl, hb6⟩
  have q2 := q1.below hb6
  clear q1 hb6 n1 n2
  have n1 := q2.is0 0 (by decide) (.int .i64 (n : Int)) rfl
  have n2 := q2.is0 1 (by decide) (.slice A N.l.length c) rfl
  go_wp2_with fail
  refine (HNW.out _ q2.base).mono ?_
  rintro e w7 ⟨g, gl, qq, A', c', rfl, hwl, hb7⟩
  have q3 := (q2.rebase).below hb7
  have HVB := Lib.hid q2.base
  have hD := hwl.lo1.2.2
  have hwd := q2.lt0
  clear q2 n1 n2 HLI HDC HNW
  go_wp2_with fail
  go_loopw [5] (fun t wr => ∃ (k : Nat) (s : Wk) (kk : Int), k ≤ M ∧ t = .int .i64 (k : Int) ∧ Hid (WkAt N n k s ∧ IsSet s.last) ∧ WkLies wr N w6.heap.size g gl qq A' c' s kk ∧ Bag w w6 w6.heap.size [(w.heap.size, 24, 2, #[.int .i64 (n : Int), .slice A N.l.length c])] wr) (fun t _ => M - (intOf t).toNat)
  case atStart => exact ⟨0, ⟨0, false, false⟩, 0, by omega, rfl, ⟨WkAt.start N n, isSet_zero⟩, hwl, q3⟩
  case round =>
    clear q3 hwl
    obtain ⟨k, s, kk, hk2, rfl, HK, hwl, q⟩ := hrel
    have n1 := q.is0 0 (by decide) (.int .i64 (n : Int)) rfl
    have n2 := q.is0 1 (by decide) (.slice A N.l.length c) rfl
    have hmi := HMI.out
    have HB0 := Lib.hid (HVB.out.trans (q.base.mono HVB.out.size))
    by_cases hlt : k < M
    · have hc : decide ((k : Int) < (M : Int)) = true := decide_eq_true (by omega)
      have hak := HAS.out
      have HAK := Lib.hid (fun W => hak W k (by omega))
      have HEK := Lib.hid (fun W hb => HEV.out W hb k)
      obtain ⟨B, hB⟩ : ∃ B, evB N (asg k n) = B := ⟨_, rfl⟩
      rw [hB] at HEK
      have HB := Lib.hid hB
      clear hak hB
      go_wp2_with fail
      clear hmi
      refine (HAK.out _).mono ?_
      rintro e w8 ⟨rfl, hb8⟩
      have q8 := q.below hb8
      have HG8 := Lib.hid (Nat.lt_of_lt_of_le hwl.row.lt hb8.size)
      have q9 := q8.new #[.int .u64 (lo (asg k n) : Int), .int .u64 (hi (asg k n) : Int)] 27 w8.heap.size 2 rfl rfl
      have hw9 := (hwl.below hb8).alloc (.cells #[.int .u64 (lo (asg k n) : Int), .int .u64 (hi (asg k n) : Int)] 27)
      clear q hwl n1 n2
      have n1 := q8.is0 0 (by decide) (.int .i64 (n : Int)) rfl
      have n2 := q8.is0 1 (by decide) (.slice A N.l.length c) rfl
      have hz8 := q8.lt0
      go_wp2_with fail
      refine (HEK.out _ (HVB.out.trans (q9.base.mono HVB.out.size))).mono ?_
      rintro e w10 ⟨rfl, hb10⟩
      have q10 := q9.below hb10
      have hw10 := hw9.below hb10
      clear q8 q9 hw9 n1 n2 hz8
      cases B
      · go_wp2
        go_roundw
        case rel => exact ⟨k + 1, s, kk, by omega, by go_num, ⟨HK.out.1.miss HB.out, HK.out.2⟩, hw10, q10.tail⟩
        case measure => simp [intOf]; omega
      · obtain ⟨hp, hs'⟩ := HIT.out k s HK.out.1 hlt HB.out
        have hnx := HNX.out w10 _ g gl qq A' c' s _ _ kk hw10 (HTB.out _ (HVB.out.trans (q10.base.mono HVB.out.size))) (HTL.out g (Nat.le_trans HVB.out.size hD)) HK.out.2 hp hs'
        have HN2 := Lib.hid hnx
        clear hnx hp hs'
        go_wp2_with fail
        refine HN2.out.mono ?_
        rintro e w11 ⟨rfl, hw11, hg11⟩
        have hne : ∀ r ∈ [(w8.heap.size, 27, 2, #[Value.int .u64 (lo (asg k n) : Int), .int .u64 (hi (asg k n) : Int)]), (w.heap.size, 24, 2, #[.int .i64 (n : Int), .slice A N.l.length c])], r.1 ≠ g := fun r hr => by
          simp only [List.mem_cons, List.mem_nil_iff, or_false] at hr
          rcases hr with rfl | rfl
          · exact Nat.ne_of_gt HG8.out
          · exact Nat.ne_of_lt (Nat.lt_of_lt_of_le hwd hD)
        have q11 := q10.grown hg11 hD hne
        have s1 := q11.is0 0 (by decide) (.int .u64 (lo (asg k n) : Int)) rfl
        have s2 := q11.is0 1 (by decide) (.int .u64 (hi (asg k n) : Int)) rfl
        have heq := eq_same (asg k n)
        have hz11 := q11.lt0
        clear q10 hw10
        go_wp2
        go_roundw
        case rel => exact ⟨k + 1, ⟨asg k n, true, false⟩, _, by omega, by go_num, ⟨WkAt.hitAt N n k, asg_isSet (by omega)⟩, hw11.alloc _, (q11.alloc _).tail⟩
        case measure => simp [intOf]; omega
    · obtain rfl : k = M := by omega
      have hc : decide ((k : Int) < (k : Int)) = false := decide_eq_false (by omega)
      obtain ⟨hp, hs'⟩ := HST.out s HK.out.1
      have hnx := HNX.out wr _ g gl qq A' c' s _ _ kk hwl (HTB.out _ HB0.out) (HTL.out g (Nat.le_trans HVB.out.size hD)) HK.out.2 hp hs'
      have HN2 : Hid (Calls Tryd.prog 31 #[.pointer (some ⟨g, 0, none⟩)] wr fun e w' => e = .returned (.tuple #[.agg #[.int .u64 0, .int .u64 0], .bool false]) ∧ WkLies w' N w6.heap.size g gl qq A' c' ⟨0, true, true⟩ (stepN N s kk) ∧ wr.grownBy w' (some g)) := Lib.hid hnx
      clear hnx hp hs'
      go_wp2_with fail
      clear hmi
      refine HN2.out.mono ?_
      rintro e w11 ⟨rfl, hw11, hg11⟩
      have q11 := q.grown hg11 hD (fun r hr => by simp only [List.mem_cons, List.mem_nil_iff, or_false] at hr; subst hr; exact Nat.ne_of_lt (Nat.lt_of_lt_of_le hwd hD))
      have q12 := q11.alloc (.cells #[.int .u64 0, .int .u64 0] 27)
      go_wp2_with fail
      refine (HWK.out _ (HVB.out.trans (q12.base.mono HVB.out.size))).mono ?_
      rintro e w13 ⟨rfl, hb13⟩
      go_wp2
      go_ret
      exact ⟨rfl, (q12.below hb13).bl⟩
theorem all_no (w : World) (N : Nt) (A : Option Addr) (c : Nat) (hlen : N.l.length ≤ 140737488355328) (hN : NtAt w w.heap.size A N.l) (hT : Tab w) (h : lightB N 100 = false ∨ (lightB N 100 = true ∧ (9 < N.n ∨ (¬ 9 < N.n ∧ (vld N && dcmp N) = false)))) :
    Calls Tryd.prog 8 #[ntV N A c] w fun e w' => e = .returned (.bool true) ∧ Below w.heap.size w w' := by
  have hq0 : Bag w (w.alloc (.cells #[.int .i64 N.n, .slice A N.l.length c] 24)) (w.alloc (.cells #[.int .i64 N.n, .slice A N.l.length c] 24)).heap.size [(w.heap.size, 24, 2, #[.int .i64 N.n, .slice A N.l.length c])] (w.alloc (.cells #[.int .i64 N.n, .slice A N.l.length c] 24)) := ((Bag.start (Below.refl _ w)).new _ _ _ 2 rfl rfl).rebase
  obtain ⟨V, hV⟩ : ∃ V, w.alloc (.cells #[.int .i64 N.n, .slice A N.l.length c] 24) = V := ⟨_, rfl⟩
  rw [hV] at hq0
  have hwV : Below w.heap.size w V := by rw [← hV]; exact (Below.refl _ _).alloc (Nat.le_refl _) _
  have hnt : ∀ W, Below V.heap.size V W → NtAt W W.heap.size A N.l := fun W hb => ((hN.below hwV).below (hb.mono hwV.size)).more (Nat.le_trans hwV.size hb.size)
  have htb : ∀ W, Below V.heap.size V W → Tab W := fun W hb => (hT.below hwV).below hb
  have hli := fun W hb => light_any W N A c 100 hlen (hnt W hb) (by omega)
  have hdc := fun W hb => decomposable_g W N A c hlen (hnt W hb)
  have hwk := fun W hb => works_any W (htb W hb)
  have HDC := Lib.hid hdc
  have HWK := Lib.hid hwk
  have HV := Lib.hid hV
  clear hdc hwk hV hnt htb hwV hT
  rcases h with h | ⟨h, h9 | ⟨h9, hb⟩⟩
  · rw [h] at hli
    have HLI := Lib.hid hli
    clear hli h
    go_enter Tryd.func8, Tryd.ntmps8
    go_wp2_with fail
    rw [HV.out]
    refine (HLI.out _ hq0.base).mono ?_
    rintro e w5 ⟨rfl, hb5⟩
    have q1 := hq0.below hb5
    go_wp2_with fail
    refine (HWK.out _ q1.base).mono ?_
    rintro e w6 ⟨rfl, hb6⟩
    go_wp2
    go_ret
    exact ⟨rfl, (q1.below hb6).bl⟩
  · rw [h] at hli
    have HLI := Lib.hid hli
    clear hli h
    go_enter Tryd.func8, Tryd.ntmps8
    go_wp2_with fail
    rw [HV.out]
    refine (HLI.out _ hq0.base).mono ?_
    rintro e w5 ⟨rfl, hb5⟩
    have q1 := hq0.below hb5
    have n1 := q1.is0 0 (by decide) (.int .i64 N.n) rfl
    go_wp2_with fail
    refine (HWK.out _ q1.base).mono ?_
    rintro e w6 ⟨rfl, hb6⟩
    go_wp2
    go_ret
    exact ⟨rfl, (q1.below hb6).bl⟩
  · rw [h] at hli
    rw [hb] at HDC
    have HLI := Lib.hid hli
    clear hli h hb
    go_enter Tryd.func8, Tryd.ntmps8
    go_wp2_with fail
    rw [HV.out]
    refine (HLI.out _ hq0.base).mono ?_
    rintro e w5 ⟨rfl, hb5⟩
    have q1 := hq0.below hb5
    have n1 := q1.is0 0 (by decide) (.int .i64 N.n) rfl
    have n2 := q1.is0 1 (by decide) (.slice A N.l.length c) rfl
    go_wp2_with fail
    refine (HDC.out _ q1.base).mono ?_
    rintro e w6 ⟨rfl, hb6⟩
    have q2 := q1.below hb6
    go_wp2_with fail
    refine (HWK.out _ q2.base).mono ?_
    rintro e w7 ⟨rfl, hb7⟩
    go_wp2
    go_ret
    exact ⟨rfl, (q2.below hb7).bl⟩
theorem lall_any (w : World) (N : Nt) (A : Option Addr) (c : Nat) (hlen : N.l.length ≤ 140737488355328) (hN : NtAt w w.heap.size A N.l) (hT : Tab w) :
    Calls Tryd.prog 8 #[ntV N A c] w fun e w' => e = .returned (.bool true) ∧ Below w.heap.size w w' := by
  by_cases h : lightB N 100 = false ∨ (lightB N 100 = true ∧ (9 < N.n ∨ (¬ 9 < N.n ∧ (vld N && dcmp N) = false)))
  · exact all_no w N A c hlen hN hT h
  · have hL : lightB N 100 = true := by
      cases hl : lightB N 100
      · exact absurd (.inl hl) h
      · rfl
    have h9 : ¬ 9 < N.n := fun h' => h (.inr ⟨hL, .inl h'⟩)
    have hvd : (vld N && dcmp N) = true := by
      cases hl : (vld N && dcmp N)
      · exact absurd (.inr ⟨hL, .inr ⟨h9, hl⟩⟩) h
      · rfl
    simp only [Bool.and_eq_true] at hvd
    obtain ⟨hn0, _, _, _⟩ := vld_bounds hvd.1
    exact all_main w N A c N.n.toNat (by omega) (by omega) hN hL hvd.1 hvd.2 hT
end Go.Proofs.YtemgfhdgpkmmaaaDoor
