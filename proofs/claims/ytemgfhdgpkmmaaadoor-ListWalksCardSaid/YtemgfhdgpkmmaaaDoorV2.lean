/- The walks of sets of variables: Has, Without, Sub, Len, First, Less; lit.Holds. -/
import Derived.Test.YtemgfhdgpkmmaaaDoorV1
import Derived.Test.YtemgfhdgpkmmaaaDoorQ3
import Derived.Test.YtemgfhdgpkmmaaaDoorPop
set_option linter.unusedSimpArgs false
set_option linter.unusedVariables false
open Go Go.RowKit Cs
namespace Cs
/-- s without v. -/
def wout (s : Nat) (v : Int) : Nat := if 1 ≤ v ∧ v ≤ 128 then minus s (2 ^ (v.toNat - 1)) else s
/-- The least variable, or 0. -/
def firstN (s : Nat) : Int := (vl s).headD 0
end Cs
namespace Go.Proofs.YtemgfhdgpkmmaaaDoor
open Go.Shelf
attribute [local go_sem] Oper.semAt_some
set_option maxRecDepth 100000 in
theorem members_in (n : Nat) (hn : 1 ≤ n) (w : World) (s : Nat) : CallsIn Fence.wide n Tryd.prog 79 #[setV s] w fun e w' =>
    e = .returned (.func (.func 102) #[] #[.pointer (some ⟨w.heap.size, 0, none⟩)]) ∧ w' = w.alloc (.cells #[.int .u64 (lo s : Int), .int .u64 (hi s : Int)] 27) := by
  refine callsIn_of_wp Tryd.func79 rfl trivial ?_ rfl
  simp only [Tryd.ntmps79, List.size_toArray, List.length_cons, List.length_nil, Nat.reduceAdd, Nat.reduceSub, Array.replicate_succ, Array.replicate_zero, List.push_toArray, List.append_toArray, List.nil_append, List.cons_append]
  gi_wp2
  go_ret
  exact ⟨rfl, rfl⟩
set_option maxRecDepth 100000 in
set_option maxHeartbeats 2000000 in
theorem first_in (n : Nat) (hn : 3 ≤ n) (s : Nat) (w : World) (hT : Tab w) :
    CallsIn Fence.wide n Tryd.prog 108 #[setV s] w fun e W' => e = .returned (.int .i64 (firstN s)) ∧ Below w.heap.size w W' := by
  have h1 : 1 ≤ n := by omega
  refine callsIn_of_wp_marks Tryd.func108 rfl trivial ?_ rfl
  simp only [Tryd.ntmps108, List.size_toArray, List.length_cons, List.length_nil, Nat.reduceAdd, Nat.reduceSub, Array.replicate_succ, Array.replicate_zero, List.push_toArray, List.append_toArray, List.nil_append, List.cons_append]
  gi_wp2
  refine ⟨trivial, (members_in (n - 1) (by omega) _ s).mono ?_⟩
  rintro e w' ⟨rfl, rfl⟩
  gi_wp2
  have e1 : ((w.alloc (.cells #[.int .u64 (lo s : Int), .int .u64 (hi s : Int)] 27)).alloc (.cells #[.int .i64 0] 3)).heap.size = w.heap.size + 1 + 1 := by simp
  have hB0 : Below w.heap.size w ((w.alloc (.cells #[.int .u64 (lo s : Int), .int .u64 (hi s : Int)] 27)).alloc (.cells #[.int .i64 0] 3)) := ((Below.refl _ w).alloc (Nat.le_refl _) _).alloc (by simp) _
  have hB1 := hB0.alloc (by simp; omega) (.cells #[.int .u64 (lo s : Int), .int .u64 (hi s : Int)] 27)
  have hr0 : (((w.alloc (.cells #[.int .u64 (lo s : Int), .int .u64 (hi s : Int)] 27)).alloc (.cells #[.int .i64 0] 3)).alloc (.cells #[.int .u64 (lo s : Int), .int .u64 (hi s : Int)] 27)).rowIs (w.heap.size + 1) 3 1 (fun _ => .int .i64 0) := (boxNew _ _ _ _ (by simp)).alloc _
  have hm := pairNew ((w.alloc (.cells #[.int .u64 (lo s : Int), .int .u64 (hi s : Int)] 27)).alloc (.cells #[.int .i64 0] 3)) (.int .u64 (lo s : Int)) (.int .u64 (hi s : Int)) 27 (w.heap.size + 1 + 1) (by simp)
  have hm0 := hm.cell (i := 0) (by omega)
  have hm1 := hm.cell (i := 1) (by omega)
  obtain ⟨W0, hW0⟩ : ∃ W0, (((w.alloc (.cells #[.int .u64 (lo s : Int), .int .u64 (hi s : Int)] 27)).alloc (.cells #[.int .i64 0] 3)).alloc (.cells #[.int .u64 (lo s : Int), .int .u64 (hi s : Int)] 27)) = W0 := ⟨_, rfl⟩
  rw [hW0] at hB1 hr0 hm0 hm1 ⊢
  have hlt := hm.lt
  rw [hW0] at hlt
  have hz := hB1.size
  refine wpIn_rangeFunc_ownG rfl h1 (gf := 102) (lb := #[.pointer (some ⟨w.heap.size + 1 + 1, 0, none⟩)]) (by first | rfl | simp [e1]) trivial (enters_of Tryd.func102 (by kernel_rfl) rfl)
    (mem_stops (n - 1) (by omega) (w.heap.size + 1 + 1) w.heap.size s W0 (hT.below hB1) hlt hT.lt hz hm0 hm1) belowK_t (belowK_b hz) (Below.refl _ _) (fun _ => rfl)
    (fun pre W => pre = [] ∧ W.cell? ⟨w.heap.size + 1, 0, none⟩ = some (.int .i64 0) ∧ W.frozen? ⟨w.heap.size + 1, 0, none⟩ = false ∧ Below w.heap.size w W)
    (fun c pre W => c = .ret ∧ ∃ x, pre = [x] ∧ W.cell? ⟨w.heap.size + 1, 0, none⟩ = some (.int .i64 x) ∧ Below w.heap.size w W)
    (fun s A B row hs hg hr => ⟨hs.1, cell_kept hs.2.1 hg (fun r e => (hr r e).2), (frozen_kept hs.2.1 hg (fun r e => (hr r e).2)).trans hs.2.2.1, ownFrom_below (Nat.le_refl _) hz s A B row hs.2.2.2 hg hr⟩)
    (fun c s A B row hs hg hr => let ⟨h1, x, h2, h3, h4⟩ := hs; ⟨h1, x, h2, cell_kept h3 hg (fun r e => (hr r e).2), ownFrom_below (Nat.le_refl _) hz s A B row h4 hg hr⟩)
    ⟨rfl, boxCell hr0, hr0.frozen 0, hB1⟩
    (fun x => { tmps := #[setV s, .pointer (some ⟨w.heap.size, 0, none⟩), .pointer (some ⟨w.heap.size + 1, 0, none⟩), .int .i64 x, .agg #[.int .u64 (lo s : Int), .int .u64 (hi s : Int)], .func (.func 102) #[] #[.pointer (some ⟨w.heap.size + 1 + 1, 0, none⟩)], .int .i64 x, undef], defers := [] }) ?assign ?body ?done ?stop
  case assign =>
    intro l x W K hK
    gi_wp2
    exact hK
  case body =>
    rintro l pre x W ⟨rfl, hc, hf, hB⟩ hlt
    gi_wp2
    exact ⟨(KeepsOthers.setCell _ _ _).from _, rfl, x, rfl, World.cell?_setCell_same' _ _ _ (by rw [hc]; rfl), hB.setCell (by simp) _⟩
  case done =>
    rintro D ys W hD rfl ⟨hys, hc, hf, hB⟩ hK
    have hf0 : firstN s = 0 := by unfold firstN; rw [hys]; rfl
    gi_wp2
    have hK' := (KeepsOthers.setCell W ⟨w.heap.size + 1, 0, none⟩ (.int .i64 0)).same D _ hK rfl
    refine ⟨by simp, .inl ⟨_, _, rfl, run_takeDeferred hK', ?_⟩⟩
    have hc5 := cell_kept (World.cell?_setCell_same' W ⟨w.heap.size + 1, 0, none⟩ (.int .i64 0) (by rw [hc]; rfl)) (grownBy_putObj' _ D (.deferred none)) (fun r e => by cases e; exact ⟨_, hK', rfl⟩)
    refine ⟨.int .i64 0, ?_, by first | rfl | rw [hf0], (hB.setCell (p := ⟨w.heap.size + 1, 0, none⟩) (by simp) (.int .i64 0)).trans (belowK_b (w := w) (Nat.le_refl _) _ D _ _ (by omega) hK' rfl rfl)⟩
    simp [results, Tryd.f108, go_sem, hc5]
  case stop =>
    rintro D c pre W hD hpre ⟨rfl, x, rfl, hc, hB⟩ hK
    have hf0 : firstN s = x := by
      obtain ⟨t, ht⟩ := hpre
      unfold firstN; rw [← ht]; rfl
    gi_wp2
    refine ⟨by simp, .inl ⟨_, _, rfl, run_takeDeferred hK, ?_⟩⟩
    have hc5 := cell_kept hc (grownBy_putObj' _ D (.deferred none)) (fun r e => by cases e; exact ⟨_, hK, rfl⟩)
    refine ⟨.int .i64 x, ?_, by first | rfl | rw [hf0], hB.trans (belowK_b (w := w) (Nat.le_refl _) _ D _ _ (by omega) hK rfl rfl)⟩
    simp [results, Tryd.f108, go_sem, hc5]
theorem first_any (w : World) (s : Nat) (hT : Tab w) : Calls Tryd.prog 108 #[setV s] w fun e w' => e = .returned (.int .i64 (firstN s)) ∧ Below w.heap.size w w' := callsIn_wide.1 (first_in 3 (by omega) s w hT)
end Go.Proofs.YtemgfhdgpkmmaaaDoor
namespace Cs
theorem vl_sorted (s : Nat) : (vl s).Pairwise (· < ·) := by
  rw [vl_eq]
  unfold vlist
  refine List.Pairwise.map (R := (· < ·)) (S := (· < ·)) _ (fun a b h => by omega) (List.Pairwise.map (R := (· < ·)) (S := (· < ·)) _ (fun a b h => by omega) (List.Pairwise.filter _ List.pairwise_lt_range))
theorem less_first (a b : Nat) : (decide (0 < firstN (minus a b ||| minus b a)) && !has a (firstN (minus a b ||| minus b a))) = lessB a b := by
  have hd : ∀ i, (minus a b ||| minus b a).testBit i = (a.testBit i != b.testBit i) := fun i => by
    rw [Nat.testBit_or, minus_bit, minus_bit]
    cases a.testBit i <;> cases b.testBit i <;> rfl
  obtain ⟨d, hdd⟩ : ∃ d, minus a b ||| minus b a = d := ⟨_, rfl⟩
  rw [hdd] at hd ⊢
  have hs := vl_sorted d
  unfold firstN
  cases hv : vl d with
  | nil =>
    have he : key a = key b := by
      unfold key
      refine sN_congr _ _ _ fun i hi => ?_
      have h1 : d.testBit i = false := by
        cases h : d.testBit i
        · rfl
        · have := (mem_vl hi).2 h
          rw [hv] at this; cases this
      rw [hd] at h1
      have : a.testBit i = b.testBit i := by cases h2 : a.testBit i <;> cases h3 : b.testBit i <;> simp_all
      rw [this]
    show (decide ((0 : Int) < 0) && _) = _
    unfold lessB
    rw [he]; simp
  | cons v vs =>
    rw [hv] at hs
    obtain ⟨i, hb, rfl⟩ := vl_mem (s := d) (v := v) (by rw [hv]; simp)
    have hi : i < 128 := by
      rcases Nat.lt_or_ge i 128 with h | h
      · exact h
      · have h1 := vl_bounds d ((i : Int) + 1) (by rw [hv]; simp); omega
    have hmin : ∀ j, j < i → a.testBit j = b.testBit j := fun j hj => by
      have h1 : d.testBit j = false := by
        cases h : d.testBit j
        · rfl
        · have h2 := (mem_vl (show j < 128 by omega)).2 h
          rw [hv] at h2
          rcases List.mem_cons.1 h2 with h3 | h3
          · omega
          · have := (List.pairwise_cons.1 hs).1 _ h3
            omega
      rw [hd] at h1
      cases h2 : a.testBit j <;> cases h3 : b.testBit j <;> simp_all
    show (decide ((0 : Int) < (i : Int) + 1) && !has a ((i : Int) + 1)) = _
    have hh : has a ((i : Int) + 1) = a.testBit i := by
      unfold has
      rw [decide_eq_true (by omega), Bool.true_and, show ((i : Int) + 1).toNat - 1 = i by omega]
    rw [hh, decide_eq_true (by omega), Bool.true_and]
    rw [hd] at hb
    unfold lessB
    cases h2 : a.testBit i
    · have h3 : b.testBit i = true := by rw [h2] at hb; simpa using hb
      rw [decide_eq_true (key_first hi hmin h2 h3)]; rfl
    · have h3 : b.testBit i = false := by rw [h2] at hb; simpa using hb
      have := key_first hi (fun j hj => (hmin j hj).symm) h3 h2
      rw [decide_eq_false (by omega)]; rfl
theorem has_bit (s : Nat) (v : Int) (h1 : 1 ≤ v) (h2 : v ≤ 128) : has s v = s.testBit (v.toNat - 1) := by unfold has; rw [decide_eq_true ⟨h1, h2⟩, Bool.true_and]
theorem and_two_ne (x i : Nat) : (((x &&& 2 ^ i : Nat) : Int) != 0) = x.testBit i := by
  rw [nat_bit]
  have e := Nat.testBit_eq_decide_div_mod_eq (x := x) (i := i)
  rw [e]
  have hp := Nat.two_pow_pos i
  rcases Nat.mod_two_eq_zero_or_one (x / 2 ^ i) with h | h
  · rw [h]; simp
  · have h2 : (((2 ^ i : Nat) : Int) != 0) = true := bne_iff_ne.2 (by omega)
    rw [h, Nat.one_mul, h2]; simp
theorem sN_more (f : Nat → Nat) (m n : Nat) : sN f (m + n) = sN f m + sN (fun i => f (m + i)) n := sumTo_more CN f m n
theorem crd_words (s : Nat) : crd s = pcn 64 (lo s) + pcn 64 (hi s) := by
  unfold crd pcn
  have hc : ∀ (f : Nat → Bool) n, (List.range n).countP f = sN (fun i => if f i then 1 else 0) n := fun f n => by
    induction n with
    | zero => rfl
    | succ n ih =>
      rw [List.range_succ, List.countP_append, ih, sN_succ, List.countP_singleton]
  rw [hc, show (128 : Nat) = 64 + 64 from rfl, sN_more]
  rw [sN_congr (fun i => if s.testBit i = true then 1 else 0) (fun i => if (lo s).testBit i = true then 1 else 0) 64 fun i hi => by rw [lo_bit, decide_eq_true hi, Bool.true_and]]
  rw [sN_congr (fun i => if s.testBit (64 + i) = true then 1 else 0) (fun i => if (hi s).testBit i = true then 1 else 0) 64 fun i h => by rw [hi_bit, decide_eq_true h, Bool.true_and, Nat.add_comm]]
end Cs
namespace Go.Proofs.YtemgfhdgpkmmaaaDoor
open Go.Shelf
set_option maxRecDepth 100000 in
set_option maxHeartbeats 1000000 in
theorem has_any (w : World) (s : Nat) (v : Int) : Calls Tryd.prog 75 #[setV s, .int .i64 v] w fun e w' => e = .returned (.bool (has s v)) ∧ Below w.heap.size w w' := by
  have hbl : Below w.heap.size w (w.alloc (.cells #[.int .u64 (lo s : Int), .int .u64 (hi s : Int)] 27)) := (Below.refl _ _).alloc (Nat.le_refl _) _
  by_cases hv : 1 ≤ v ∧ v ≤ 128
  · obtain ⟨hv1, hv2⟩ := hv
    have hh := has_bit s v hv1 hv2
    by_cases h64 : v ≤ 64
    · have h1 := u64_and_nat (lo s) (lo (2 ^ (v.toNat - 1))) (lo_lt _) (lo_lt _)
      have h2 : lo (2 ^ (v.toNat - 1)) = 2 ^ (v.toNat - 1) := by rw [lo_two, if_pos (by omega)]
      have h3 := and_two_ne (lo s) (v.toNat - 1)
      rw [lo_bit, decide_eq_true (by omega), Bool.true_and, ← hh, ← h2] at h3
      have H3 := Lib.hid h3
      clear h2 h3 hh
      go_enter Tryd.func75, Tryd.ntmps75
      go_wp2_with (go_at_call 84; refine (place_lo _ v hv1 h64).mono ?_; rintro e w' ⟨rfl, rfl⟩)
      go_ret
      exact ⟨congrArg (fun b => Ending.returned (.bool b)) H3.out, hbl⟩
    · have h1 := u64_and_nat (hi s) (hi (2 ^ (v.toNat - 1))) (hi_lt _) (hi_lt _)
      have h2 : hi (2 ^ (v.toNat - 1)) = 2 ^ (v.toNat - 1 - 64) := by rw [hi_two _ (by omega), if_neg (by omega)]
      have h3 := and_two_ne (hi s) (v.toNat - 1 - 64)
      rw [hi_bit, decide_eq_true (by omega), Bool.true_and, show v.toNat - 1 - 64 + 64 = v.toNat - 1 by omega, ← hh, ← h2] at h3
      have H3 := Lib.hid h3
      clear h2 h3 hh
      go_enter Tryd.func75, Tryd.ntmps75
      go_wp2_with (go_at_call 84; refine (place_hi _ v (by omega) hv2).mono ?_; rintro e w' ⟨rfl, rfl⟩)
      go_ret
      exact ⟨congrArg (fun b => Ending.returned (.bool b)) H3.out, hbl⟩
  · have hh : has s v = false := by unfold has; rw [decide_eq_false hv]; rfl
    rw [hh]
    clear hh
    go_enter Tryd.func75, Tryd.ntmps75
    go_wp2_with (go_at_call 84; refine (place_no _ v (by omega)).mono ?_; rintro e w' ⟨rfl, rfl⟩)
    go_ret
    exact ⟨rfl, hbl⟩
set_option maxRecDepth 100000 in
set_option maxHeartbeats 1000000 in
theorem without_any (w : World) (s : Nat) (v : Int) : Calls Tryd.prog 52 #[setV s, .int .i64 v] w fun e w' => e = .returned (setV (wout s v)) ∧ Below w.heap.size w w' := by
  by_cases hv : 1 ≤ v ∧ v ≤ 128
  · obtain ⟨hv1, hv2⟩ := hv
    have hw : wout s v = minus s (2 ^ (v.toNat - 1)) := by unfold wout; rw [if_pos ⟨hv1, hv2⟩]
    rw [hw]
    clear hw
    by_cases h64 : v ≤ 64
    · have h1 := u64_andNot_nat (lo s) (lo (2 ^ (v.toNat - 1))) (lo_lt _) (lo_lt _)
      rw [← lo_minus] at h1
      have h2 : hi (minus s (2 ^ (v.toNat - 1))) = hi s := by
        rw [hi_minus, hi_two _ (by omega), if_pos (by omega), Nat.sub_zero]
        have := hi_lt s
        exact (Nat.and_two_pow_sub_one_eq_mod (hi s) 64).trans (Nat.mod_eq_of_lt this)
      have H2 := Lib.hid h2; clear h2
      go_enter Tryd.func52, Tryd.ntmps52
      go_wp2_with (go_at_call 84; refine (place_lo _ v hv1 h64).mono ?_; rintro e w' ⟨rfl, rfl⟩)
      refine ret_set rfl (minus s (2 ^ (v.toNat - 1))) rfl (pairNew _ _ _ _ _ (by simp)) rfl (by rw [H2.out]; rfl) rfl ⟨rfl, ?_⟩
      exact ((Below.refl _ _).alloc (Nat.le_refl _) _).alloc (by simp) _
    · have h1 := u64_andNot_nat (hi s) (hi (2 ^ (v.toNat - 1))) (hi_lt _) (hi_lt _)
      rw [← hi_minus] at h1
      have h2 : lo (minus s (2 ^ (v.toNat - 1))) = lo s := by
        rw [lo_minus, lo_two, if_neg (by omega), Nat.sub_zero]
        have := lo_lt s
        exact (Nat.and_two_pow_sub_one_eq_mod (lo s) 64).trans (Nat.mod_eq_of_lt this)
      have H2 := Lib.hid h2; clear h2
      go_enter Tryd.func52, Tryd.ntmps52
      go_wp2_with (go_at_call 84; refine (place_hi _ v (by omega) hv2).mono ?_; rintro e w' ⟨rfl, rfl⟩)
      refine ret_set rfl (minus s (2 ^ (v.toNat - 1))) rfl (pairNew _ _ _ _ _ (by simp)) (by rw [H2.out]; rfl) rfl rfl ⟨rfl, ?_⟩
      exact ((Below.refl _ _).alloc (Nat.le_refl _) _).alloc (by simp) _
  · have hw : wout s v = s := by unfold wout; rw [if_neg hv]
    rw [hw]
    clear hw
    go_enter Tryd.func52, Tryd.ntmps52
    go_wp2_with (go_at_call 84; refine (place_no _ v (by omega)).mono ?_; rintro e w' ⟨rfl, rfl⟩)
    refine ret_set rfl s rfl (pairNew _ _ _ _ _ (by simp)) rfl rfl rfl ⟨rfl, ?_⟩
    exact ((Below.refl _ _).alloc (Nat.le_refl _) _).alloc (by simp) _
theorem eq_sets (a b c d : Int) (w : World) : (Op.equalIn 10000 27 (.agg #[.int .u64 a, .int .u64 b]) (.agg #[.int .u64 c, .int .u64 d])).run Tryd.prog w = .ok (a == c && b == d) w := eq_set a b c d w
theorem set_zero (s : Nat) (hs : IsSet s) : (((lo s : Int) == 0) && ((hi s : Int) == 0)) = decide (s = 0) := by
  by_cases h : s = 0
  · subst h; rfl
  · rw [decide_eq_false h]
    have h1 := set_eq s hs
    cases h2 : ((lo s : Int) == 0)
    · rfl
    · cases h3 : ((hi s : Int) == 0)
      · rfl
      · rw [beq_iff_eq] at h2 h3
        exact absurd (by omega) h
set_option maxRecDepth 100000 in
theorem sub_any (w : World) (a b : Nat) (ha : IsSet a) : Calls Tryd.prog 70 #[setV a, setV b] w fun e w' => e = .returned (.bool (decide (minus a b = 0))) ∧ Below w.heap.size w w' := by
  have hm := fun W => minus_any W a b
  have hz := fun W => eq_zero (minus a b) (isSet_minus ha) W
  obtain ⟨m, hmm⟩ : ∃ m, minus a b = m := ⟨_, rfl⟩
  simp only [hmm] at hm hz ⊢
  have HM := Lib.hid hm
  have hbl : Below w.heap.size w ((w.alloc (.cells #[.int .u64 (lo a : Int), .int .u64 (hi a : Int)] 27)).alloc (.cells #[.int .u64 (lo b : Int), .int .u64 (hi b : Int)] 27)) := ((Below.refl _ _).alloc (Nat.le_refl _) _).alloc (by simp) _
  clear hm hmm
  go_enter Tryd.func70, Tryd.ntmps70
  go_wp2_with fail
  refine (HM.out _).mono ?_
  rintro e w5 ⟨rfl, hb5⟩
  have hb := Cs.Below.trans' hbl hb5 hbl.size
  go_wp2
  go_ret
  exact ⟨rfl, hb⟩
set_option maxRecDepth 100000 in
theorem len_any (w : World) (s : Nat) : Calls Tryd.prog 82 #[setV s] w fun e w' => e = .returned (.int .i64 (crd s : Nat)) ∧ Below w.heap.size w w' := by
  have hc := crd_words s
  have h1 := fun W => ones64_any W (lo s) (lo_lt s)
  have h2 := fun W => ones64_any W (hi s) (hi_lt s)
  have l1 := pcn_le 64 (lo s)
  have l2 := pcn_le 64 (hi s)
  have hbx := pairNew w (.int .u64 (lo s : Int)) (.int .u64 (hi s : Int)) 27 _ rfl
  have hbl : Below w.heap.size w (w.alloc (.cells #[.int .u64 (lo s : Int), .int .u64 (hi s : Int)] 27)) := (Below.refl _ _).alloc (Nat.le_refl _) _
  obtain ⟨p, hp⟩ : ∃ p, pcn 64 (lo s) = p := ⟨_, rfl⟩
  obtain ⟨q, hq⟩ : ∃ p, pcn 64 (hi s) = p := ⟨_, rfl⟩
  rw [hp, hq] at hc
  rw [hp] at l1
  rw [hq] at l2
  simp only [hp] at h1
  simp only [hq] at h2
  have H1 := Lib.hid h1
  have H2 := Lib.hid h2
  have HC := Lib.hid hc
  have hwr : IntKind.i64.wrap ((p : Int) + (q : Int)) = ((p + q : Nat) : Int) := by rw [IntKind.wrap_i64]; omega
  clear h1 h2 hc hp hq
  go_enter Tryd.func82, Tryd.ntmps82
  go_wp2_with fail
  replace hbl := belowDrewN hbl 1
  change Below _ _ (World.drew _) at hbl
  have c1 := hbx.drew.cell (i := 0) (by omega)
  have c2 := hbx.drew.cell (i := 1) (by omega)
  rw [if_pos rfl] at c1
  rw [if_neg (by omega)] at c2
  go_region_held3 (fun w' => w'.cell? ⟨w.heap.size, 0, none⟩ = some (.int .u64 (lo s : Int)) ∧ w'.cell? ⟨w.heap.size, 1, none⟩ = some (.int .u64 (hi s : Int))) (first | exact ⟨c1, c2⟩ | go_keep)
    (first
      | (go_simp
         go_at_call 104
         (with_reducible first | refine (H1.out _).mono ?_ | refine (H2.out _).mono ?_)
         rintro e w9 ⟨rfl, rfl⟩))
  all_goals
    try go_wp2
    go_ret
    exact ⟨by rw [HC.out]; first | rfl | (simp; done), hbl⟩
set_option maxRecDepth 100000 in
set_option maxHeartbeats 1000000 in
theorem less_any (w : World) (a b : Nat) (hT : Tab w) : Calls Tryd.prog 89 #[setV a, setV b] w fun e w' => e = .returned (.bool (lessB a b)) ∧ Below w.heap.size w w' := by
  have hl := less_first a b
  have h1 := fun W => minus_any W a b
  have h2 := fun W => minus_any W b a
  have h3 := fun W => union_any W (minus a b) (minus b a)
  have h4 := fun W h => first_any W (minus a b ||| minus b a) h
  have h5 := fun W => has_any W a (firstN (minus a b ||| minus b a))
  obtain ⟨f, hf⟩ : ∃ f, firstN (minus a b ||| minus b a) = f := ⟨_, rfl⟩
  obtain ⟨m, hm⟩ : ∃ f, minus a b = f := ⟨_, rfl⟩
  obtain ⟨k, hk⟩ : ∃ f, minus b a = f := ⟨_, rfl⟩
  obtain ⟨L, hL⟩ : ∃ f, lessB a b = f := ⟨_, rfl⟩
  simp only [hm, hk] at h1 h2 h3 h4 h5 hf hl
  simp only [hf] at h4 h5 hl
  obtain ⟨H, hH⟩ : ∃ h, has a f = h := ⟨_, rfl⟩
  simp only [hH] at h5 hl
  rw [hL] at hl ⊢
  have H1 := Lib.hid h1
  have H2 := Lib.hid h2
  have H3 := Lib.hid h3
  have H4 := Lib.hid h4
  have H5 := Lib.hid h5
  have HL := Lib.hid hl
  have hbx := (pairNew w (.int .u64 (lo a : Int)) (.int .u64 (hi a : Int)) 27 _ rfl).alloc (.cells #[.int .u64 (lo b : Int), .int .u64 (hi b : Int)] 27)
  have hby := pairNew (w.alloc (.cells #[.int .u64 (lo a : Int), .int .u64 (hi a : Int)] 27)) (.int .u64 (lo b : Int)) (.int .u64 (hi b : Int)) 27 (w.heap.size + 1) (by simp)
  have hbl : Below w.heap.size w ((w.alloc (.cells #[.int .u64 (lo a : Int), .int .u64 (hi a : Int)] 27)).alloc (.cells #[.int .u64 (lo b : Int), .int .u64 (hi b : Int)] 27)) := ((Below.refl _ _).alloc (Nat.le_refl _) _).alloc (by simp) _
  clear h1 h2 h3 h4 h5 hl hf hm hk hH hL
  go_enter Tryd.func89, Tryd.ntmps89
  go_wp2_with fail
  replace hbl := belowDrewN hbl 1
  change Below _ _ (World.drew _) at hbl
  replace hbx := hbx.drew
  replace hby := hby.drew
  have hcs : ∀ W : World, W.rowIs w.heap.size 27 2 (fun i => if i = 0 then .int .u64 (lo a : Int) else .int .u64 (hi a : Int)) → W.rowIs (w.heap.size + 1) 27 2 (fun i => if i = 0 then .int .u64 (lo b : Int) else .int .u64 (hi b : Int)) →
      W.cell? ⟨w.heap.size, 0, none⟩ = some (.int .u64 (lo a : Int)) ∧ W.cell? ⟨w.heap.size, 1, none⟩ = some (.int .u64 (hi a : Int)) ∧ W.cell? ⟨w.heap.size + 1, 0, none⟩ = some (.int .u64 (lo b : Int)) ∧ W.cell? ⟨w.heap.size + 1, 1, none⟩ = some (.int .u64 (hi b : Int)) := fun W h1 h2 =>
    ⟨h1.cell (i := 0) (by omega), h1.cell (i := 1) (by omega), h2.cell (i := 0) (by omega), h2.cell (i := 1) (by omega)⟩
  have HCS := Lib.hid hcs
  clear hcs
  obtain ⟨c1, c2, c3, c4⟩ := HCS.out _ hbx hby
  go_region_held3 (fun w' => w'.cell? ⟨w.heap.size, 0, none⟩ = some (.int .u64 (lo a : Int)) ∧ w'.cell? ⟨w.heap.size, 1, none⟩ = some (.int .u64 (hi a : Int)) ∧ w'.cell? ⟨w.heap.size + 1, 0, none⟩ = some (.int .u64 (lo b : Int)) ∧ w'.cell? ⟨w.heap.size + 1, 1, none⟩ = some (.int .u64 (hi b : Int))) (first | exact ⟨c1, c2, c3, c4⟩ | go_keep)
    (first
      | (go_simp
         go_at_call 83
         (with_reducible first | refine (H1.out _).mono ?_ | refine (H2.out _).mono ?_)
         rintro e w9 ⟨rfl, hb9⟩
         replace hbx := rowBelow hbx hb9
         replace hby := rowBelow hby hb9
         replace hbl := Cs.Below.trans' hbl hb9 hbl.size
         obtain ⟨c1, c2, c3, c4⟩ := HCS.out _ hbx hby)
      | (go_simp
         go_at_call 42
         (with_reducible refine (H3.out _).mono ?_)
         rintro e w9 ⟨rfl, hb9⟩
         replace hbx := rowBelow hbx hb9
         replace hby := rowBelow hby hb9
         replace hbl := Cs.Below.trans' hbl hb9 hbl.size
         obtain ⟨c1, c2, c3, c4⟩ := HCS.out _ hbx hby)
      | (go_simp
         go_at_call 108
         (with_reducible refine (H4.out _ (hT.below hbl)).mono ?_)
         rintro e w9 ⟨rfl, hb9⟩
         replace hbx := rowBelow hbx hb9
         replace hby := rowBelow hby hb9
         replace hbl := Cs.Below.trans' hbl hb9 hbl.size
         obtain ⟨c1, c2, c3, c4⟩ := HCS.out _ hbx hby))
  all_goals
    by_cases hf0 : 0 < f
    · have HL2 : Hid ((!H) = L) := Lib.hid (by have := HL.out; rw [decide_eq_true hf0, Bool.true_and] at this; exact this)
      go_wp2_with fail
      refine (H5.out _).mono ?_
      rintro e w10 ⟨rfl, hb10⟩
      have hb := Cs.Below.trans' hbl hb10 hbl.size
      go_wp2
      go_ret
      exact ⟨by rw [← HL2.out]; rfl, hb⟩
    · have HL2 : Hid (L = false) := Lib.hid (by have := HL.out; rw [decide_eq_false hf0, Bool.false_and] at this; exact this.symm)
      go_wp2
      go_ret
      exact ⟨by rw [HL2.out]; rfl, hbl⟩
set_option maxRecDepth 100000 in
set_option maxHeartbeats 1000000 in
theorem holds_any (w : World) (s : Nat) (l : Int) (h1 : -9223372036854775808 ≤ l) (h2 : l ≤ 9223372036854775807) : Calls Tryd.prog 43 #[setV s, .int .i64 l] w fun e w' => e = .returned (.bool (hld s l)) ∧ Below w.heap.size w w' := by
  have hva := fun W => litVar_any W l h1 h2
  have hlv := litVar_le l
  have hhs := fun W => has_any W s (litVar l)
  have hv : hld s l = (decide (litVar l ≠ 0) && (s.testBit ((litVar l).toNat - 1) == decide (0 < l))) := rfl
  have hb : litVar l ≠ 0 → has s (litVar l) = s.testBit ((litVar l).toNat - 1) := fun h => has_bit s _ (by omega) (by omega)
  obtain ⟨H, hH⟩ : ∃ b, hld s l = b := ⟨_, rfl⟩
  obtain ⟨v, hv'⟩ : ∃ v, litVar l = v := ⟨_, rfl⟩
  rw [hH] at hv ⊢
  rw [hv'] at hv hlv hb
  simp only [hv'] at hva hhs
  have HVA := Lib.hid hva
  have hbx := pairNew w (.int .u64 (lo s : Int)) (.int .u64 (hi s : Int)) 27 _ rfl
  have hbl : Below w.heap.size w (w.alloc (.cells #[.int .u64 (lo s : Int), .int .u64 (hi s : Int)] 27)) := (Below.refl _ _).alloc (Nat.le_refl _) _
  clear hva hH hv'
  by_cases h0 : v = 0
  · subst h0
    have HV : Hid (H = false) := Lib.hid (by rw [hv]; rfl)
    clear hv hhs hb
    go_enter Tryd.func43, Tryd.ntmps43
    go_wp2_with fail
    go_quiet (first | (go_at_call 65; exact Calls.quiet_of_same ((HVA.out _).mono fun e u h => ⟨h.1, h.2.symm⟩)))
    go_wp2
    go_ret
    exact ⟨by rw [HV.out]; rfl, belowDrewN hbl _⟩
  · obtain ⟨T, hT⟩ : ∃ b, s.testBit (v.toNat - 1) = b := ⟨_, rfl⟩
    rw [hT] at hv hb
    simp only [hb h0] at hhs
    have HHS := Lib.hid hhs
    have HV : Hid (H = (T == decide (0 < l))) := Lib.hid (by rw [hv, decide_eq_true h0, Bool.true_and])
    have hv0 : (v != 0) = true := bne_iff_ne.2 h0
    have hv1 : (v == 0) = false := beq_eq_false_iff_ne.2 h0
    clear hv hT hhs hb
    go_enter Tryd.func43, Tryd.ntmps43
    go_wp2_with fail
    replace hbl := belowDrewN hbl 1
    change Below _ _ (World.drew _) at hbl
    replace hbx := hbx.drew
    have c1 := hbx.cell (i := 0) (by omega)
    have c2 := hbx.cell (i := 1) (by omega)
    rw [if_pos rfl] at c1
    rw [if_neg (by omega)] at c2
    go_region_held3 (fun w' => w'.cell? ⟨w.heap.size, 0, none⟩ = some (.int .u64 (lo s : Int)) ∧ w'.cell? ⟨w.heap.size, 1, none⟩ = some (.int .u64 (hi s : Int))) (first | exact ⟨c1, c2⟩ | go_keep)
      (first
        | (go_simp
           go_at_call 65
           (with_reducible refine (HVA.out _).mono ?_)
           rintro e w9 ⟨rfl, rfl⟩)
        | (go_simp
           go_at_call 75
           (with_reducible refine (HHS.out _).mono ?_)
           rintro e w9 ⟨rfl, hb9⟩
           replace hbx := rowBelow hbx hb9
           replace hbl := Cs.Below.trans' hbl hb9 hbl.size
           have c1 : w9.cell? ⟨w.heap.size, 0, none⟩ = some (.int .u64 (lo s : Int)) := hbx.cell (i := 0) (by omega)
           have c2 : w9.cell? ⟨w.heap.size, 1, none⟩ = some (.int .u64 (hi s : Int)) := hbx.cell (i := 1) (by omega)))
    all_goals
      try go_wp2
      go_ret
      exact ⟨by rw [HV.out]; rfl, hbl⟩
end Go.Proofs.YtemgfhdgpkmmaaaDoor
