import Derived.Test.YtgnobohfnhpkdaaGreatDoorZi
import Derived.WalkMore
set_option linter.unusedSimpArgs false
set_option linter.unusedVariables false
set_option maxRecDepth 100000
set_option maxHeartbeats 8000000
open Go Go.RowKit Cs
namespace Go.Proofs.YtgnobohfnhpkdaaGreatDoor
theorem wtj_no {w : World} {lo hi : List ByteArray} {e : Ending} {w' : World} (h : WtsR w lo hi e w') (hn : ¬ (okL lo lo.length ∧ okL hi hi.length)) : Below w.heap.size w w' ∧ ∃ (Al Ah : Option Addr) (m k c d : Nat), e = .returned (.tuple #[wtsV Al Ah m k c d, .bool false]) := by
 obtain ⟨hb, ⟨_, h⟩ | ⟨hy, _⟩⟩ := h
 ·exact ⟨hb, h⟩
 ·exact absurd hy hn
theorem wtj_yes {w : World} {lo hi : List ByteArray} {e : Ending} {w' : World} (h : WtsR w lo hi e w') (h1 : okL lo lo.length) (h2 : okL hi hi.length) : Below w.heap.size w w' ∧ ∃ Al Ah cl ch, e = .returned (.tuple #[wtsV Al Ah lo.length hi.length cl ch, .bool (decide (lo.length ≤ 140) && decide (hi.length ≤ 140))]) ∧ lo.length ≤ cl ∧ hi.length ≤ ch ∧
   Rd w' w'.heap.size Al (lo.length * 2) (prsF (prL lo)) ∧ Rd w' w'.heap.size Ah (hi.length * 2) (prsF (prL hi)) := by
 obtain ⟨hb, ⟨hn, _⟩ | ⟨_, h⟩⟩ := h
 ·exact absurd ⟨h1, h2⟩ hn
 ·exact ⟨hb, h⟩
theorem weighs_any (w : World) (N : Nt) (A Al Ah Ab : Option Addr) (c cl ch cb : Nat) (lo hi : List ByteArray) (bs : List Nat) (hlen : N.l.length ≤ 140737488355328) (hN : NtAt w w.heap.size A N.l) (hT : Tab w)
  (hl1 : lo.length ≤ 1000000000000) (hl2 : hi.length ≤ 1000000000000) (hrl : Rd w w.heap.size Al lo.length (strF lo)) (hrh : Rd w w.heap.size Ah hi.length (strF hi)) (hs1 : ∀ i, (lo.getD i ⟨#[]⟩).size ≤ maxLen) (hs2 : ∀ i, (hi.getD i ⟨#[]⟩).size ≤ maxLen)
  (hbs : Rd w w.heap.size Ab bs.length (byF bs)) (hb8 : ∀ i, bs.getD i 0 < 256) :
  Calls Tryz.prog 6 #[ntV N A c, .slice Al lo.length cl, .slice Ah hi.length ch, .slice Ab bs.length cb] w fun e w' => e = .returned (.bool true) ∧ Below w.heap.size w w' := by
 have hfw := fun W hN => fewS_any W N A Ab c bs.length cb hlen hN
 have HTB := zqh (fun W (hb : Below w.heap.size w W) => hT.below hb)
 cases hf : fewS N bs.length
 ·rw [hf] at hfw
  have HFW := zqh hfw
  obtain ⟨Nn, l⟩ := N
  have q0 := (Bag.zero w).new #[.int .i64 Nn, .slice A l.length c] 24 w.heap.size 2 rfl rfl
  have HNT := zqh (fun W (hb : Below w.heap.size w W) => (hN.below hb).more hb.size)
  clear hfw hf hN hbs hb8 hT hrl hrh hs1 hs2 hl1 hl2
  go_enter Tryz.func6, Tryz.ntmps6
  go_wp2_with fail
  refine (HFW.out _ (HNT.out _ q0.bl)).mono ?_
  rintro e w1 ⟨rfl, hb1⟩
  have q1 := q0.below hb1
  clear hb1
  go_wp2_with fail
  refine (works_any _ (HTB.out _ q1.bl)).mono ?_
  rintro e w9 ⟨rfl, hb9⟩
  have hb := zqx q1.bl hb9 q1.bl.size
  go_wp2_with fail
  go_ret
  exact ⟨rfl, hb⟩
 ·obtain ⟨h20, h64⟩ := few_n20 hf
  have hlb : bs.length ≤ 1000000 := by omega
  have hin : ∀ k (hk : k < N.l.length), N.l[k].ins.length ≤ 1000000 := by
   have hf2 := hf
   unfold fewS at hf2
   simp only [Bool.and_eq_true] at hf2
   exact few_ins hf2.1.1
  rw [hf] at hfw
  have hll : ∀ L : List ByteArray, (prL L).length = L.length := fun L => by unfold prL; rw [List.length_map]
  obtain ⟨T, hT'⟩ : ∃ T, wgR N (prL lo) (prL hi) bs = T := ⟨_, rfl⟩
  have hwg : ∀ W Bl Bh dl dh, okL lo lo.length → okL hi hi.length → lo.length ≤ dl → hi.length ≤ dh → NtAt W W.heap.size A N.l → Tab W → Rd W W.heap.size Bl (lo.length * 2) (prsF (prL lo)) → Rd W W.heap.size Bh (hi.length * 2) (prsF (prL hi)) → Rd W W.heap.size Ab bs.length (byF bs) →
    Calls Tryz.prog 21 #[ntV N A c, wtsV Bl Bh lo.length hi.length dl dh, .slice Ab bs.length cb] W fun e w' => e = .returned (tkV T) ∧ Below W.heap.size W w' := fun W Bl Bh dl dh k1 k2 h1 h2 hN hT r1 r2 rb => by
   have := weighted_any W N A c dl dh bs.length cb (prL lo) (prL hi) bs Bl Bh Ab hlen hN hT hin (okL_wg k1) (okL_wg k2) (by rw [hll]; exact r1) (by rw [hll]; exact r2) (by rw [hll]; exact h1) (by rw [hll]; exact h2) rfl hlb rb hb8
   rw [hT', hll, hll] at this
   exact this
  have hrd : ∀ W, okL lo lo.length → okL hi hi.length → NtAt W W.heap.size A N.l → Rd W W.heap.size Al lo.length (strF lo) → Rd W W.heap.size Ah hi.length (strF hi) → Rd W W.heap.size Ab bs.length (byF bs) →
    Calls Tryz.prog 22 #[ntV N A c, .slice Al lo.length cl, .slice Ah hi.length ch, .slice Ab bs.length cb] W fun e w' => e = .returned (tkV T) ∧ Below W.heap.size W w' := fun W k1 k2 hN r1 r2 rb => by
   have := rweighted_any W N A Al Ah Ab c cl ch cb lo hi bs hlen hN h20 k1 k2 r1 r2 hlb rb hb8
   rw [hT'] at this
   exact this
  have hws := fun W (h1 : Rd W W.heap.size Al lo.length (strF lo)) (h2 : Rd W W.heap.size Ah hi.length (strF hi)) => weights_any W lo hi Al Ah cl ch hl1 hl2 h1 h2 hs1 hs2
  obtain ⟨Nn, l⟩ := N
  obtain ⟨Ta, Tu, To, Te⟩ := T
  have hwg' : ∀ W Bl Bh dl dh, okL lo lo.length → okL hi hi.length → lo.length ≤ dl → hi.length ≤ dh → NtAt W W.heap.size A l → Tab W → Rd W W.heap.size Bl (lo.length * 2) (prsF (prL lo)) → Rd W W.heap.size Bh (hi.length * 2) (prsF (prL hi)) → Rd W W.heap.size Ab bs.length (byF bs) →
    Calls Tryz.prog 21 #[.agg #[.int .i64 Nn, .slice A l.length c], .agg #[.slice Bl lo.length dl, .slice Bh hi.length dh], .slice Ab bs.length cb] W fun e w' => e = .returned (.tuple #[.agg #[.int .u64 (Cs.lo Ta : Int), .int .u64 (Cs.hi Ta : Int)], .int .i64 (Tu : Int), .bool To, .int .i64 Te]) ∧ Below W.heap.size W w' := hwg
  have hrd' : ∀ W, okL lo lo.length → okL hi hi.length → NtAt W W.heap.size A l → Rd W W.heap.size Al lo.length (strF lo) → Rd W W.heap.size Ah hi.length (strF hi) → Rd W W.heap.size Ab bs.length (byF bs) →
    Calls Tryz.prog 22 #[.agg #[.int .i64 Nn, .slice A l.length c], .slice Al lo.length cl, .slice Ah hi.length ch, .slice Ab bs.length cb] W fun e w' => e = .returned (.tuple #[.agg #[.int .u64 (Cs.lo Ta : Int), .int .u64 (Cs.hi Ta : Int)], .int .i64 (Tu : Int), .bool To, .int .i64 Te]) ∧ Below W.heap.size W w' := hrd
  have he : ∀ w, (Op.equalIn 10000 30 (.agg #[.int .u64 (Cs.lo Ta : Int), .int .u64 (Cs.hi Ta : Int)]) (.agg #[.int .u64 (Cs.lo Ta : Int), .int .u64 (Cs.hi Ta : Int)])).run Tryz.prog w = .ok true w := fun w => by rw [eq_set]; simp
  have HFW := zqh hfw
  have HWG := zqh hwg'
  have HRD := zqh hrd'
  have HE := zqh he
  have HWS := zqh hws
  have HRL := zqh (fun W (hb : Below w.heap.size w W) => (hrl.below hb).more hb.size)
  have HRH := zqh (fun W (hb : Below w.heap.size w W) => (hrh.below hb).more hb.size)
  have HBS := zqh (fun W (hb : Below w.heap.size w W) => (hbs.below hb).more hb.size)
  have HNT := zqh (fun W (hb : Below w.heap.size w W) => (hN.below hb).more hb.size)
  have hcase : ¬ (okL lo lo.length ∧ okL hi hi.length) ∨ (okL lo lo.length ∧ okL hi hi.length ∧ ((decide (lo.length ≤ 140) && decide (hi.length ≤ 140)) = false ∨ (decide (lo.length ≤ 140) && decide (hi.length ≤ 140)) = true)) := by
   by_cases k : okL lo lo.length ∧ okL hi hi.length
   ·refine .inr ⟨k.1, k.2, ?_⟩
    cases decide (lo.length ≤ 140) && decide (hi.length ≤ 140)
    ·exact .inl rfl
    ·exact .inr rfl
   ·exact .inl k
  clear hfw hwg hrd hwg' hrd' he hf h20 h64 hin hT' hbs hb8 hT hrl hrh hws hN hs1 hs2 hl1 hl2 hlb hll
  have q0 := (Bag.zero w).new #[.int .i64 Nn, .slice A l.length c] 24 w.heap.size 2 rfl rfl
  go_enter Tryz.func6, Tryz.ntmps6
  go_wp2_with fail
  refine (HFW.out _ (HNT.out _ q0.bl)).mono ?_
  rintro e w1 ⟨rfl, hb1⟩
  have q1 := q0.below hb1
  clear hb1
  go_wp2_with fail
  refine (HWS.out _ (HRL.out _ q1.bl) (HRH.out _ q1.bl)).mono ?_
  intro e w6 hws
  rcases hcase with hcase | ⟨k1, k2, hcase⟩
  ·obtain ⟨hb6, Xl, Xh, xm, xk, xc, xd, rfl⟩ := wtj_no hws hcase
   have q6 := q1.below hb6
   clear hws hb6 q1
   go_wp2_with fail
   refine (works_any _ (HTB.out _ (q6.alloc (.cells #[.slice Xl xm xc, .slice Xh xk xd] 46)).bl)).mono ?_
   rintro e w9 ⟨rfl, hb9⟩
   have hb := zqx (q6.alloc (.cells #[.slice Xl xm xc, .slice Xh xk xd] 46)).bl hb9 (q6.alloc (.cells #[.slice Xl xm xc, .slice Xh xk xd] 46)).bl.size
   go_wp2_with fail
   go_ret
   exact ⟨rfl, hb⟩
  ·obtain ⟨hb6, Bl, Bh, dl, dh, rfl, hdl, hdh, hrl, hrh⟩ := wtj_yes hws k1 k2
   have q6 := (q1.below hb6).new #[.slice Bl lo.length dl, .slice Bh hi.length dh] 46 w6.heap.size 2 rfl rfl
   replace hrl := (hrl.alloc (zqn _) (.cells #[.slice Bl lo.length dl, .slice Bh hi.length dh] 46)).more (B' := (w6.alloc (.cells #[.slice Bl lo.length dl, .slice Bh hi.length dh] 46)).heap.size) (by simp)
   replace hrh := (hrh.alloc (zqn _) (.cells #[.slice Bl lo.length dl, .slice Bh hi.length dh] 46)).more (B' := (w6.alloc (.cells #[.slice Bl lo.length dl, .slice Bh hi.length dh] 46)).heap.size) (by simp)
   have m1 := q6.tail.is0 0 (by decide) (.int .i64 Nn) rfl
   have m2 := q6.tail.is0 1 (by decide) (.slice A l.length c) rfl
   have p1 := q6.is0 0 (by decide) (.slice Bl lo.length dl) rfl
   have p2 := q6.is0 1 (by decide) (.slice Bh hi.length dh) rfl
   clear hws hb6 q1
   rcases hcase with h140 | h140
   ·rw [h140]
    go_wp2_with fail
    refine (works_any _ (HTB.out _ q6.bl)).mono ?_
    rintro e w9 ⟨rfl, hb9⟩
    have hb := zqx q6.bl hb9 q6.bl.size
    go_wp2_with fail
    go_ret
    exact ⟨rfl, hb⟩
   ·rw [h140]
    go_wp2_with fail
    refine (HWG.out _ _ _ _ _ k1 k2 hdl hdh (HNT.out _ q6.bl) (HTB.out _ q6.bl) hrl hrh (HBS.out _ q6.bl)).mono ?_
    rintro e w7 ⟨rfl, hb7⟩
    have q7 := ((q6.below hb7).tail).new #[.int .u64 (Cs.lo Ta : Int), .int .u64 (Cs.hi Ta : Int)] 30 w7.heap.size 2 rfl rfl
    clear m1 m2 p1 p2 hb7 q6 hrl hrh
    have m1 := q7.tail.is0 0 (by decide) (.int .i64 Nn) rfl
    have m2 := q7.tail.is0 1 (by decide) (.slice A l.length c) rfl
    go_wp2_with fail
    refine (HRD.out _ k1 k2 (HNT.out _ q7.bl) (HRL.out _ q7.bl) (HRH.out _ q7.bl) (HBS.out _ q7.bl)).mono ?_
    rintro e w3 ⟨rfl, hb3⟩
    have q3 := (q7.below hb3).new #[.int .u64 (Cs.lo Ta : Int), .int .u64 (Cs.hi Ta : Int)] 30 w3.heap.size 2 rfl rfl
    clear m1 m2 hb3 q7
    have p1 := q3.is0 0 (by decide) (.int .u64 (Cs.lo Ta : Int)) rfl
    have p2 := q3.is0 1 (by decide) (.int .u64 (Cs.hi Ta : Int)) rfl
    have p3 := q3.tail.is0 0 (by decide) (.int .u64 (Cs.lo Ta : Int)) rfl
    have p4 := q3.tail.is0 1 (by decide) (.int .u64 (Cs.hi Ta : Int)) rfl
    have he := HE.out
    go_wp2_with fail
    refine (works_any _ (HTB.out _ q3.bl)).mono ?_
    rintro e w9 ⟨rfl, hb9⟩
    have hb := zqx q3.bl hb9 q3.bl.size
    go_wp2_with fail
    go_ret
    exact ⟨rfl, hb⟩
end Go.Proofs.YtgnobohfnhpkdaaGreatDoor
