/- The walk of ListSteps. -/
import Derived.Test.YtemgfhdgpkmmaaaDoorAl
import Derived.Lib.TrailingZeros
set_option linter.unusedSimpArgs false
set_option linter.unusedVariables false
open Go Go.RowKit Cs
namespace Cs
theorem low_bit {x m : Nat} (hx : x < 18446744073709551616) (hm : x.testBit m = true) (hl : ∀ i, i < m → x.testBit i = false) : x &&& (18446744073709551616 - x) = 2 ^ m := by
  have h0 : x ≠ 0 := by rintro rfl; simp at hm
  obtain ⟨h1, h2⟩ := Go.Lib.lowest_bit 64 x h0 (by omega)
  have h3 : x &&& (18446744073709551616 - x) = 2 ^ Go.Lib.ctz 64 x := h1
  rw [h3]
  unfold Go.Lib.ctz at h2 ⊢
  rw [if_neg h0] at h2 ⊢
  obtain ⟨q, hq, _⟩ := Go.Lib.ctzFrom_spec 64 x (by omega) (by omega)
  obtain ⟨j, hj⟩ : ∃ j, Go.Lib.ctzFrom 64 x = j := ⟨_, rfl⟩
  rw [hj] at hq ⊢
  have e : j = m := by
    rcases Nat.lt_trichotomy j m with h | h | h
    · have := hl j h
      rw [hq, bit_low, if_neg (by omega), if_pos rfl] at this
      cases this
    · exact h
    · rw [hq, bit_low, if_pos h] at hm
      cases hm
  rw [e]
theorem low_word {x m : Nat} (hx : x < 18446744073709551616) (hm : x.testBit m = true) (hl : ∀ i, i < m → x.testBit i = false) : bits BinOp.and IntKind.u64 (x : Int) (IntKind.u64.wrap (-(x : Int))) = ((2 ^ m : Nat) : Int) := by
  have h0 : x ≠ 0 := by rintro rfl; simp at hm
  have e1 : IntKind.u64.wrap (-(x : Int)) = ((18446744073709551616 - x : Nat) : Int) := by rw [IntKind.wrap_u64]; omega
  rw [e1, u64_and_nat _ _ hx (by omega), low_bit hx hm hl]
theorem and_two {x m : Nat} (h : x.testBit m = true) : x &&& 2 ^ m = 2 ^ m := by
  apply Nat.eq_of_testBit_eq; intro i
  rw [Nat.testBit_and, Nat.testBit_two_pow]
  by_cases e : m = i
  · subst e; simp [h]
  · simp [e]
/-- The words of the differences, and of the lowest variable in which two sets differ. -/
structure Lows (a b D0 D1 L0 L1 : Nat) : Prop where
  x0 : lo a ^^^ lo b = D0
  x1 : hi a ^^^ hi b = D1
  w0 : bits BinOp.and IntKind.u64 (D0 : Int) (IntKind.u64.wrap (-(D0 : Int))) = (L0 : Int)
  w1 : bits BinOp.and IntKind.u64 (D1 : Int) (IntKind.u64.wrap (-(D1 : Int))) = (L1 : Int)
  a0 : lo a &&& L0 = L0
  a1 : D0 = 0 → hi a &&& L1 = L1
  z : D0 = 0 → D1 ≠ 0
  l0 : L0 < 18446744073709551616
  l1 : L1 < 18446744073709551616
theorem wrap_neg0 : bits BinOp.and IntKind.u64 ((0 : Nat) : Int) (IntKind.u64.wrap (-((0 : Nat) : Int))) = ((0 : Nat) : Int) := by decide
theorem lows_of {a b : Nat} (ha : IsSet a) (hb : IsSet b) (h : key b < key a) : ∃ D0 D1 L0 L1, Lows a b D0 D1 L0 L1 := by
  obtain ⟨m, hm, he, hb0, ha1⟩ := key_lt hb ha h
  have b0 : ∀ i, (lo a ^^^ lo b).testBit i = (decide (i < 64) && (a.testBit i ^^ b.testBit i)) := fun i => by
    rw [Nat.testBit_xor, lo_bit, lo_bit]; cases decide (i < 64) <;> simp
  have b1 : ∀ i, (hi a ^^^ hi b).testBit i = (decide (i < 64) && (a.testBit (i + 64) ^^ b.testBit (i + 64))) := fun i => by
    rw [Nat.testBit_xor, hi_bit, hi_bit]; cases decide (i < 64) <;> simp
  have xl0 : lo a ^^^ lo b < 18446744073709551616 := Nat.xor_lt_two_pow (n := 64) (lo_lt a) (lo_lt b)
  have xl1 : hi a ^^^ hi b < 18446744073709551616 := Nat.xor_lt_two_pow (n := 64) (hi_lt a) (hi_lt b)
  have word : ∀ x : Nat, x < 18446744073709551616 → ∃ L : Nat, L < 18446744073709551616 ∧ bits BinOp.and IntKind.u64 (x : Int) (IntKind.u64.wrap (-(x : Int))) = (L : Int) := fun x hx => by
    by_cases h0 : x = 0
    · subst h0; exact ⟨0, by decide, wrap_neg0⟩
    · have e1 : IntKind.u64.wrap (-(x : Int)) = ((18446744073709551616 - x : Nat) : Int) := by rw [IntKind.wrap_u64]; omega
      exact ⟨x &&& (18446744073709551616 - x), Nat.lt_of_le_of_lt Nat.and_le_left hx, by rw [e1, u64_and_nat _ _ hx (by omega)]⟩
  by_cases h64 : m < 64
  · have hD : (lo a ^^^ lo b).testBit m = true := by rw [b0, decide_eq_true h64, ha1, hb0]; rfl
    have hw := low_word xl0 hD fun i hi => by rw [b0, he i hi]; simp
    obtain ⟨L1, hL1, hw1⟩ := word _ xl1
    have hne : lo a ^^^ lo b ≠ 0 := by intro e; rw [e] at hD; simp at hD
    exact ⟨_, _, _, L1, rfl, rfl, hw, hw1, and_two (by rw [lo_bit, decide_eq_true h64, ha1]; rfl), fun e => absurd e hne, fun e => absurd e hne, Nat.lt_of_lt_of_le (Nat.pow_lt_pow_right (by decide) h64) (by decide), hL1⟩
  · have hD0 : lo a ^^^ lo b = 0 := by
      apply Nat.eq_of_testBit_eq; intro i
      rw [b0, Nat.zero_testBit]
      by_cases hi : i < 64
      · rw [he i (by omega)]; simp
      · rw [decide_eq_false hi]; rfl
    have hD : (hi a ^^^ hi b).testBit (m - 64) = true := by rw [b1, decide_eq_true (by omega), show m - 64 + 64 = m by omega, ha1, hb0]; rfl
    have hw := low_word xl1 hD fun i hi => by rw [b1, he (i + 64) (by omega)]; simp
    refine ⟨_, _, 0, _, rfl, rfl, by rw [hD0]; exact wrap_neg0, hw, by simp, fun _ => and_two (by rw [hi_bit, decide_eq_true (by omega), show m - 64 + 64 = m by omega, ha1]; rfl), fun _ e => ?_, by decide, Nat.lt_of_lt_of_le (Nat.pow_lt_pow_right (by decide) (show m - 64 < 64 by omega)) (by decide)⟩
    rw [e] at hD; simp at hD
end Cs
namespace Go.Proofs.YtemgfhdgpkmmaaaDoor
theorem WkLies.far {w : World} {N : Nt} {D g gl q : Nat} {A : Option Addr} {c : Nat} {s : Wk} {k : Int} (h : WkLies w N D g gl q A c s k) {X : Nat} (hX : g < X) (i : Nat) (v : Value) : WkLies (w.setCell ⟨X, i, none⟩ v) N D g gl q A c s k := by
  have hb : Below X w (w.setCell ⟨X, i, none⟩ v) := (Below.refl X w).setCell (Nat.le_refl X) _
  exact ⟨rowBelow' h.row hb hX, h.net.below (hb.mono (Nat.le_of_lt hX)), ⟨rowBelow' h.ls.row hb (Nat.lt_trans h.hi1.1 hX), rowBelow' h.ls.sets hb (Nat.lt_trans h.hi1.2 hX)⟩, h.lo1, h.hi1⟩
/-- A walk that has answered k times, lastly b. -/
def StAt (N : Nt) (k : Nat) (s : Wk) (b : Nat) : Prop := s.over = false ∧ (k = 0 → s.begun = false ∧ s.last = 0 ∧ b = 0) ∧ (0 < k → s.begun = true ∧ s.last = b) ∧ IsSet b ∧ In N.n b
theorem StAt.next {N : Nt} {k : Nat} {s : Wk} {b : Nat} (h : StAt N k s b) (hv : vld N = true) (hd : dcmp N = true) (kk : Int) :
    (s.next N = ⟨0, false⟩ ∧ s.step N = ⟨0, true, true⟩ ∧ stepN N s kk = 0) ∨
    ∃ a K, s.next N = ⟨a, true⟩ ∧ s.step N = ⟨a, true, false⟩ ∧ stepN N s kk = K ∧ 1 ≤ K ∧ K ≤ 2 * (N.l.length : Int) ∧ evB N a = true ∧ StAt N (k + 1) ⟨a, true, false⟩ a ∧ (0 < k → key b < key a) := by
  obtain ⟨hn0, hn1, hl0, hl1⟩ := vld_bounds hv
  obtain ⟨ho, h0, h1, hs, hin⟩ := h
  have key1 : ∀ p : Pt, s.next N = p → (p.ok = false → p.set = 0) → (p.ok = true → evB N p.set = true ∧ In N.n p.set ∧ (0 < k → key b < key p.set)) →
      ((s.next N = ⟨0, false⟩ ∧ s.step N = ⟨0, true, true⟩ ∧ stepN N s kk = 0) ∨
      ∃ a K, s.next N = ⟨a, true⟩ ∧ s.step N = ⟨a, true, false⟩ ∧ stepN N s kk = K ∧ 1 ≤ K ∧ K ≤ 2 * (N.l.length : Int) ∧ evB N a = true ∧ StAt N (k + 1) ⟨a, true, false⟩ a ∧ (0 < k → key b < key a)) := fun p hp hno hyes => by
    obtain ⟨ps, po⟩ := p
    cases po
    · obtain rfl := hno rfl
      refine .inl ⟨hp, ?_, ?_⟩
      · unfold Wk.step; rw [ho, if_neg (by simp), hp]; rfl
      · unfold stepN; rw [ho, if_neg (by simp), hp]; rfl
    · obtain ⟨e1, e2, e3⟩ := hyes rfl
      refine .inr ⟨ps, if s.begun then 2 * (N.l.length : Int) else (N.l.length : Int), hp, ?_, ?_, ?_, ?_, e1, ⟨rfl, fun h => absurd h (by omega), fun _ => ⟨rfl, rfl⟩, e2.isSet hn1, e2⟩, e3⟩
      · unfold Wk.step; rw [ho, if_neg (by simp), hp]; rfl
      · unfold stepN; rw [ho, if_neg (by simp), hp]; rfl
      · split <;> omega
      · split <;> omega
  rcases Nat.eq_zero_or_pos k with hk | hk
  · obtain ⟨hb, hl, _⟩ := h0 hk
    obtain ⟨s1, s2⟩ := least_spec hv hd
    exact key1 (leastN N 0 0) (by unfold Wk.next; rw [ho, if_neg (by simp), hb, if_neg (by simp)]) (fun h => (s2 h).1) (fun h => ⟨(s1 h).1, (s1 h).2.1, fun h' => absurd h' (by omega)⟩)
  · obtain ⟨hb, hl⟩ := h1 hk
    obtain ⟨s1, s2⟩ := after_spec hv hd b hin
    exact key1 (afterN N b) (by unfold Wk.next; rw [ho, if_neg (by simp), hb, if_pos rfl, hl]) (fun h => (s2 h).1) (fun h => ⟨(s1 h).1, (s1 h).2.1, fun _ => (s1 h).2.2.1⟩)
set_option maxRecDepth 100000 in
set_option maxHeartbeats 4000000 in
theorem steps_main (w : World) (N : Nt) (A : Option Addr) (c : Nat) (hN : NtAt w w.heap.size A N.l) (hL : lightB N 100 = true) (hv : vld N = true) (hd : dcmp N = true) (hT : Tab w) :
    Calls Tryd.prog 9 #[ntV N A c] w fun e w' => e = .returned (.bool true) ∧ Below w.heap.size w w' := by
  obtain ⟨hn0, hn1, hl0, hl1⟩ := vld_bounds hv
  obtain ⟨hsl, hl100⟩ := light_slim hL
  have hle := lerr0 hv hd
  have hq0 : Bag w (w.alloc (.cells #[.int .i64 N.n, .slice A N.l.length c] 24)) (w.alloc (.cells #[.int .i64 N.n, .slice A N.l.length c] 24)).heap.size [(w.heap.size, 24, 2, #[.int .i64 N.n, .slice A N.l.length c])] (w.alloc (.cells #[.int .i64 N.n, .slice A N.l.length c] 24)) := ((Bag.start (Below.refl _ w)).new _ _ _ 2 rfl rfl).rebase
  obtain ⟨V, hV⟩ : ∃ V, w.alloc (.cells #[.int .i64 N.n, .slice A N.l.length c] 24) = V := ⟨_, rfl⟩
  rw [hV] at hq0
  have hwV : Below w.heap.size w V := by rw [← hV]; exact (Below.refl _ _).alloc (Nat.le_refl _) _
  have hnt : ∀ W, Below V.heap.size V W → NtAt W W.heap.size A N.l := fun W hb => ((hN.below hwV).below (hb.mono hwV.size)).more (Nat.le_trans hwV.size hb.size)
  have htb : ∀ W, Below V.heap.size V W → Tab W := fun W hb => (hT.below hwV).below hb
  have hli := fun W hb => light_any W N A c 100 (by omega) (hnt W hb) (by omega)
  have hdc := fun W hb => decomposable_g W N A c (by omega) (hnt W hb)
  have hnw : ∀ W, Below V.heap.size V W → Calls Tryd.prog 28 #[ntV N A c] W (NewOk W N) := fun W hb => (new_any W N A c (by omega) hsl (hnt W hb)).mono fun e w' h => h.elim (fun h => h.2) (fun h => absurd hle h.1)
  have hev := fun W hb a => eval_any W N A c a (by omega) (hnt W hb)
  have hwk := fun W hb => works_any W (htb W hb)
  rw [hL] at hli
  rw [hv, hd] at hdc
  simp only [hv, Bool.true_and] at hev
  simp only [ntV] at hli hdc hnw hev
  have htl := hT.lt
  have hwz := hwV.size
  have hst := fun k s b kk (h : StAt N k s b) => h.next hv hd kk
  have hnx := fun W D g gl q A c s s' p k h hT hg hs hp hs' => next_at W N D g gl q A c s s' p k h hv hd hT hg hs hp hs'
  have HLI := Lib.hid hli
  have HDC := Lib.hid hdc
  have HNW := Lib.hid hnw
  have HEV := Lib.hid hev
  have HWK := Lib.hid hwk
  have HST := Lib.hid hst
  have HNX := Lib.hid hnx
  have HV := Lib.hid hV
  have HTB := Lib.hid htb
  have HTL := Lib.hid (show ∀ g, V.heap.size ≤ g → 1 < g from fun g hg => by omega)
  clear hli hdc hnw hev hwk hst hV hn0 hn1 hle hnt htb hwV hT hv hd hL hnx htl hwz hsl
  simp only [ntV]
  go_enter Tryd.func9, Tryd.ntmps9
  go_wp2_with fail
  rw [HV.out]
  refine (HLI.out _ hq0.base).mono ?_
  rintro e w5 ⟨rfl, hb5⟩
  have q1 := hq0.below hb5
  clear hq0 hb5
  have n1 := q1.is0 0 (by decide) (.int .i64 N.n) rfl
  have n2 := q1.is0 1 (by decide) (.slice A N.l.length c) rfl
  go_wp2_with fail
  refine (HDC.out _ q1.base).mono ?_
  rintro e w6 ⟨rfl, hb6⟩
  have q2 := q1.below hb6
  clear q1 hb6 n1 n2
  have n1 := q2.is0 0 (by decide) (.int .i64 N.n) rfl
  have n2 := q2.is0 1 (by decide) (.slice A N.l.length c) rfl
  go_wp2_with fail
  refine (HNW.out _ q2.base).mono ?_
  rintro e w7 ⟨g, gl, qq, A', c', rfl, hwl, hb7⟩
  have q3 := (q2.rebase).below hb7
  have HVB := Lib.hid q2.base
  have hD := hwl.lo1.2.2
  have hwd := q2.lt0
  clear q2 n1 n2 HLI HDC HNW
  have hst0 := hwl.steps
  go_wp2_with fail
  refine (steps_any _ g 0 hst0).mono ?_
  rintro e w8 ⟨rfl, rfl⟩
  clear hst0
  have q4 := q3.new #[.int .u64 (lo 0 : Int), .int .u64 (hi 0 : Int)] 27 w7.heap.size 2 rfl rfl
  have hwl4 := hwl.alloc (.cells #[.int .u64 (lo 0 : Int), .int .u64 (hi 0 : Int)] 27)
  have hg7 := hwl.row.lt
  have hw7 := q3.lt0
  clear hwl q3
  go_wp2_with fail
  go_loopw [33] (fun t wr => ∃ (k : Nat) (s : Wk) (kk : Int) (b : Nat), k ≤ 60 ∧ t = .int .i64 (k : Int) ∧ Hid (StAt N k s b) ∧ WkLies wr N w6.heap.size g gl qq A' c' s kk ∧ Bag w w6 w6.heap.size [(w7.heap.size, 27, 2, #[.int .u64 (lo b : Int), .int .u64 (hi b : Int)]), (w.heap.size, 24, 2, #[.int .i64 N.n, .slice A N.l.length c])] wr) (fun t _ => 60 - (intOf t).toNat)
  case atStart => exact ⟨0, ⟨0, false, false⟩, 0, 0, by omega, rfl, ⟨rfl, fun _ => ⟨rfl, rfl, rfl⟩, fun h => absurd h (by omega), isSet_zero, fun i h => by simp at h⟩, hwl4, q4⟩
  case round =>
    clear q4 hwl4
    obtain ⟨k, s, kk, b, hk2, rfl, HK, hwl, q⟩ := hrel
    by_cases hlt : k < 60
    · have hc : decide ((k : Int) < 60) = true := decide_eq_true (by omega)
      have hls : IsSet s.last := by
        obtain ⟨_, h0, h1, h2, _⟩ := HK.out
        rcases Nat.eq_zero_or_pos k with h | h
        · rw [(h0 h).2.1]; exact isSet_zero
        · rw [(h1 h).2]; exact h2
      have hne : ∀ r ∈ [(w7.heap.size, 27, 2, #[Value.int .u64 (lo b : Int), .int .u64 (hi b : Int)]), (w.heap.size, 24, 2, #[Value.int .i64 N.n, .slice A N.l.length c])], r.1 ≠ g := fun r hr => by
        simp only [List.mem_cons, List.mem_nil_iff, or_false] at hr
        rcases hr with rfl | rfl
        · exact Nat.ne_of_gt hg7
        · exact Nat.ne_of_lt (Nat.lt_of_lt_of_le hwd hD)
      have HB0 := Lib.hid (HVB.out.trans (q.base.mono HVB.out.size))
      rcases HST.out k s b kk HK.out with ⟨hp, hs', hsk⟩ | ⟨a, K, hp, hs', hsk, hK1, hK2, hea, hsa, hka⟩
      · have hnx := HNX.out wr _ g gl qq A' c' s _ _ kk hwl (HTB.out _ HB0.out) (HTL.out g (Nat.le_trans HVB.out.size hD)) hls hp hs'
        rw [hsk] at hnx
        have HN2 : Hid (Calls Tryd.prog 31 #[.pointer (some ⟨g, 0, none⟩)] wr fun e w' => e = .returned (.tuple #[.agg #[.int .u64 0, .int .u64 0], .bool false]) ∧ WkLies w' N w6.heap.size g gl qq A' c' ⟨0, true, true⟩ 0 ∧ wr.grownBy w' (some g)) := Lib.hid hnx
        have HNE := Lib.hid hne
        clear hnx hp hs' hsk hls hne
        go_wp2_with fail
        refine HN2.out.mono ?_
        rintro e w11 ⟨rfl, hw11, hg11⟩
        have q11 := (q.grown hg11 hD HNE.out).alloc (.cells #[.int .u64 0, .int .u64 0] 27)
        have hst := (hw11.alloc (.cells #[.int .u64 0, .int .u64 0] 27)).steps
        go_wp2_with fail
        refine (steps_any _ g 0 hst).mono ?_
        rintro e w12 ⟨rfl, rfl⟩
        clear hst
        go_wp2_with fail
        refine (HWK.out _ (HVB.out.trans (q11.base.mono HVB.out.size))).mono ?_
        rintro e w13 ⟨rfl, hb13⟩
        go_wp2
        go_ret
        exact ⟨rfl, (q11.below hb13).bl⟩
      · have hnx := HNX.out wr _ g gl qq A' c' s _ _ kk hwl (HTB.out _ HB0.out) (HTL.out g (Nat.le_trans HVB.out.size hD)) hls hp hs'
        rw [hsk] at hnx
        have HN2 := Lib.hid hnx
        have HNE := Lib.hid hne
        have HEA := Lib.hid (fun W hb => HEV.out W hb a)
        rw [hea] at HEA
        have HSA := Lib.hid hsa
        have HKA := Lib.hid (fun h => lows_of hsa.2.2.2.1 HK.out.2.2.2.1 (hka h))
        clear hnx hp hs' hsk hls hne hea hsa hka
        go_wp2_with fail
        refine HN2.out.mono ?_
        rintro e w11 ⟨rfl, hw11, hg11⟩
        have q10 := q.grown hg11 hD HNE.out
        have q11 := q10.new #[.int .u64 (lo a : Int), .int .u64 (hi a : Int)] 27 w11.heap.size 2 rfl rfl
        have hw12 := hw11.alloc (.cells #[.int .u64 (lo a : Int), .int .u64 (hi a : Int)] 27)
        have hst := hw12.steps
        clear hwl q
        go_wp2_with fail
        refine (steps_any _ g K hst).mono ?_
        rintro e w12 ⟨rfl, rfl⟩
        have hK3 : ¬ K < 1 := by omega
        have hK4 : ¬ 2 * (N.l.length : Int) < K := by omega
        have n1 := q10.tail.is (w.heap.size) 2 24 #[.int .i64 N.n, .slice A N.l.length c] (by simp) 0 (by decide) (.int .i64 N.n) rfl
        have n2 := q10.tail.is (w.heap.size) 2 24 #[.int .i64 N.n, .slice A N.l.length c] (by simp) 1 (by decide) (.slice A N.l.length c) rfl
        have hz10 := q10.tail.lt0
        go_wp2_with fail
        refine (steps_any _ g K hst).mono ?_
        rintro e w12 ⟨rfl, rfl⟩
        clear hst
        go_wp2_with fail
        refine (HEA.out _ (HVB.out.trans (q11.base.mono HVB.out.size))).mono ?_
        rintro e w13 ⟨rfl, hb13⟩
        have q13 := q11.below hb13
        have hw13 := hw12.below hb13
        clear q10 q11 hw12 n1 n2 hz10
        have s1 := q13.is0 0 (by decide) (.int .u64 (lo a : Int)) rfl
        have s2 := q13.is0 1 (by decide) (.int .u64 (hi a : Int)) rfl
        have s3 := q13.tail.is0 0 (by decide) (.int .u64 (lo b : Int)) rfl
        have s4 := q13.tail.is0 1 (by decide) (.int .u64 (hi b : Int)) rfl
        have f3 := q13.tail.row0.frozen 0
        have f4 := q13.tail.row0.frozen 1
        have z1 := q13.lt0
        have z2 := q13.tail.lt0
        have HZ := Lib.hid (Nat.le_trans hD (Nat.le_of_lt hg7))
        have HZ2 := Lib.hid (Nat.ne_of_lt hw7)
        by_cases hk0 : k = 0
        · have hk1 : decide ((0 : Int) < (k : Int)) = false := decide_eq_false (by omega)
          go_wp2_with fail
          go_roundw
          case rel =>
            refine ⟨k + 1, _, K, a, by omega, by go_num, HSA.out, (hw13.far hg7 _ _).far hg7 _ _, ?_⟩
            exact ((q13.tail.tail.other HZ.out (by intro r hr; simp only [List.mem_cons, List.mem_nil_iff, or_false] at hr; subst hr; exact HZ2.out) 0 _).other HZ.out (by intro r hr; simp only [List.mem_cons, List.mem_nil_iff, or_false] at hr; subst hr; exact HZ2.out) 1 _).cons (pairRow q13.tail.row0 _ _)
          case measure => simp [intOf]; omega
        · have hk1 : decide ((0 : Int) < (k : Int)) = true := decide_eq_true (by omega)
          obtain ⟨D0, D1, L0, L1, hL⟩ := HKA.out (by omega)
          have hx0 : bits BinOp.xor IntKind.u64 (lo a : Int) (lo b : Int) = (D0 : Int) := by rw [u64_xor_nat _ _ (lo_lt _) (lo_lt _), hL.x0]
          have hx1 : bits BinOp.xor IntKind.u64 (hi a : Int) (hi b : Int) = (D1 : Int) := by rw [u64_xor_nat _ _ (hi_lt _) (hi_lt _), hL.x1]
          have hw0 := hL.w0
          have hw1 := hL.w1
          have ha0 : bits BinOp.and IntKind.u64 (lo a : Int) (L0 : Int) = (L0 : Int) := by rw [u64_and_nat _ _ (lo_lt _) hL.l0, hL.a0]
          by_cases hD0 : D0 = 0
          · have e1 : ((D0 : Int) != 0) = false := by rw [hD0]; rfl
            have ha1 : bits BinOp.and IntKind.u64 (hi a : Int) (L1 : Int) = (L1 : Int) := by rw [u64_and_nat _ _ (hi_lt _) hL.l1, hL.a1 hD0]
            have heq : ∀ W, (Op.equalIn 10000 27 (.agg #[.int .u64 (D0 : Int), .int .u64 (D1 : Int)]) (.agg #[.int .u64 0, .int .u64 0])).run Tryd.prog W = .ok false W := fun W => by
              have h2 : ((D1 : Int) == 0) = false := beq_eq_false_iff_ne.2 (by have := hL.z hD0; omega)
              rw [eq_set, h2, Bool.and_false]
            clear hD0
            go_wp2_with fail
            go_roundw
            case rel =>
              refine ⟨k + 1, _, K, a, by omega, by go_num, HSA.out, (((hw13.far hg7 _ _).far hg7 _ _).alloc _).alloc _, ?_⟩
              exact ((((q13.tail.tail.other HZ.out (by intro r hr; simp only [List.mem_cons, List.mem_nil_iff, or_false] at hr; subst hr; exact HZ2.out) 0 _).other HZ.out (by intro r hr; simp only [List.mem_cons, List.mem_nil_iff, or_false] at hr; subst hr; exact HZ2.out) 1 _).cons (pairRow q13.tail.row0 _ _)).alloc _).alloc _
            case measure => simp [intOf]; omega
          · have e1 : ((D0 : Int) != 0) = true := bne_iff_ne.2 (by omega)
            have ha1 : bits BinOp.and IntKind.u64 (hi a : Int) 0 = 0 := by rw [show (0 : Int) = ((0 : Nat) : Int) from rfl, u64_and_nat _ _ (hi_lt _) (by decide), Nat.and_zero]
            have heq : ∀ W, (Op.equalIn 10000 27 (.agg #[.int .u64 (D0 : Int), .int .u64 (D1 : Int)]) (.agg #[.int .u64 0, .int .u64 0])).run Tryd.prog W = .ok false W := fun W => by
              have h2 : ((D0 : Int) == 0) = false := beq_eq_false_iff_ne.2 (by omega)
              rw [eq_set, h2, Bool.false_and]
            go_wp2_with fail
            go_roundw
            case rel =>
              refine ⟨k + 1, _, K, a, by omega, by go_num, HSA.out, (((hw13.far hg7 _ _).far hg7 _ _).alloc _).alloc _, ?_⟩
              exact ((((q13.tail.tail.other HZ.out (by intro r hr; simp only [List.mem_cons, List.mem_nil_iff, or_false] at hr; subst hr; exact HZ2.out) 0 _).other HZ.out (by intro r hr; simp only [List.mem_cons, List.mem_nil_iff, or_false] at hr; subst hr; exact HZ2.out) 1 _).cons (pairRow q13.tail.row0 _ _)).alloc _).alloc _
            case measure => simp [intOf]; omega
    · obtain rfl : k = 60 := by omega
      go_wp2_with fail
      refine (HWK.out _ (HVB.out.trans (q.base.mono HVB.out.size))).mono ?_
      rintro e w13 ⟨rfl, hb13⟩
      go_wp2
      go_ret
      exact ⟨rfl, (q.below hb13).bl⟩
theorem steps_no (w : World) (N : Nt) (A : Option Addr) (c : Nat) (hlen : N.l.length ≤ 140737488355328) (hN : NtAt w w.heap.size A N.l) (hT : Tab w) (h : lightB N 100 = false ∨ (lightB N 100 = true ∧ (vld N && dcmp N) = false)) :
    Calls Tryd.prog 9 #[ntV N A c] w fun e w' => e = .returned (.bool true) ∧ Below w.heap.size w w' := by
  have hq0 : Bag w (w.alloc (.cells #[.int .i64 N.n, .slice A N.l.length c] 24)) (w.alloc (.cells #[.int .i64 N.n, .slice A N.l.length c] 24)).heap.size [(w.heap.size, 24, 2, #[.int .i64 N.n, .slice A N.l.length c])] (w.alloc (.cells #[.int .i64 N.n, .slice A N.l.length c] 24)) := ((Bag.start (Below.refl _ w)).new _ _ _ 2 rfl rfl).rebase
  obtain ⟨V, hV⟩ : ∃ V, w.alloc (.cells #[.int .i64 N.n, .slice A N.l.length c] 24) = V := ⟨_, rfl⟩
  rw [hV] at hq0
  have hwV : Below w.heap.size w V := by rw [← hV]; exact (Below.refl _ _).alloc (Nat.le_refl _) _
  have hnt : ∀ W, Below V.heap.size V W → NtAt W W.heap.size A N.l := fun W hb => ((hN.below hwV).below (hb.mono hwV.size)).more (Nat.le_trans hwV.size hb.size)
  have htb : ∀ W, Below V.heap.size V W → Tab W := fun W hb => (hT.below hwV).below hb
  have hli := fun W hb => light_any W N A c 100 hlen (hnt W hb) (by omega)
  have hdc := fun W hb => decomposable_g W N A c hlen (hnt W hb)
  have hwk := fun W hb => works_any W (htb W hb)
  have HDC := Lib.hid hdc
  have HWK := Lib.hid hwk
  have HV := Lib.hid hV
  clear hdc hwk hV hnt htb hwV hT
  rcases h with h | ⟨h, hb⟩
  · rw [h] at hli
    have HLI := Lib.hid hli
    clear hli h
    go_enter Tryd.func9, Tryd.ntmps9
    go_wp2_with fail
    rw [HV.out]
    refine (HLI.out _ hq0.base).mono ?_
    rintro e w5 ⟨rfl, hb5⟩
    have q1 := hq0.below hb5
    go_wp2_with fail
    refine (HWK.out _ q1.base).mono ?_
    rintro e w6 ⟨rfl, hb6⟩
    go_wp2
    go_ret
    exact ⟨rfl, (q1.below hb6).bl⟩
  · rw [h] at hli
    rw [hb] at HDC
    have HLI := Lib.hid hli
    clear hli h hb
    go_enter Tryd.func9, Tryd.ntmps9
    go_wp2_with fail
    rw [HV.out]
    refine (HLI.out _ hq0.base).mono ?_
    rintro e w5 ⟨rfl, hb5⟩
    have q1 := hq0.below hb5
    have n1 := q1.is0 0 (by decide) (.int .i64 N.n) rfl
    have n2 := q1.is0 1 (by decide) (.slice A N.l.length c) rfl
    go_wp2_with fail
    refine (HDC.out _ q1.base).mono ?_
    rintro e w6 ⟨rfl, hb6⟩
    have q2 := q1.below hb6
    go_wp2_with fail
    refine (HWK.out _ q2.base).mono ?_
    rintro e w7 ⟨rfl, hb7⟩
    go_wp2
    go_ret
    exact ⟨rfl, (q2.below hb7).bl⟩
theorem lsteps_any (w : World) (N : Nt) (A : Option Addr) (c : Nat) (hlen : N.l.length ≤ 140737488355328) (hN : NtAt w w.heap.size A N.l) (hT : Tab w) :
    Calls Tryd.prog 9 #[ntV N A c] w fun e w' => e = .returned (.bool true) ∧ Below w.heap.size w w' := by
  by_cases h : lightB N 100 = false ∨ (lightB N 100 = true ∧ (vld N && dcmp N) = false)
  · exact steps_no w N A c hlen hN hT h
  · have hL : lightB N 100 = true := by
      cases hl : lightB N 100
      · exact absurd (.inl hl) h
      · rfl
    have hvd : (vld N && dcmp N) = true := by
      cases hl : (vld N && dcmp N)
      · exact absurd (.inr ⟨hL, hl⟩) h
      · rfl
    simp only [Bool.and_eq_true] at hvd
    exact steps_main w N A c hN hL hvd.1 hvd.2 hT
end Go.Proofs.YtemgfhdgpkmmaaaDoor
