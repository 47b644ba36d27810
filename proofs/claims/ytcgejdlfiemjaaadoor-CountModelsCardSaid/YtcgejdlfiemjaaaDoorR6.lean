/- The reference's ring of polynomials, as plain data; the walk of the reference's full. -/
import Derived.Test.YtcgejdlfiemjaaaDoorR5
import Derived.Test.YtcgejdlfiemjaaaDoorR4
import Derived.Test.YtcgejdlfiemjaaaDoorByCard
set_option linter.unusedSimpArgs false
set_option linter.unusedVariables false
open Go Go.RowKit Cs
namespace Cs
/-- The reference's ring, for the weights lw of -v and hw of v. -/
def RF (lw hw : List (List Nat)) : Rg (List Nat) := ⟨[], [1], fun a b => trimP (addP a b), fun a b => trimP (mulF a b), fun l => if 0 < l then hw.getD l.toNat [] else lw.getD (-l).toNat [], fun v => trimP (addP (lw.getD v.toNat []) (hw.getD v.toNat []))⟩
/-- The weights are small. -/
def WOK (lw hw : List (List Nat)) : Prop := ∀ i, (lw.getD i []).length ≤ 1 ∧ ev (lw.getD i []) ≤ 1 ∧ (hw.getD i []).length ≤ 2 ∧ ev (hw.getD i []) ≤ 1
theorem ev_trimP (p : List Nat) : ev (trimP p) = ev p := ev_same _ _ (trimP_get p)
theorem ev_mulF (a b : List Nat) : ev (mulF a b) = ev a * ev b := by
  rw [← ev_mulP]
  exact ev_same _ _ fun i => by rw [mulF_get, mulP_get]
theorem tn_of_zero (p : List Nat) (m : Nat) (h : ∀ i, m ≤ i → p.getD i 0 = 0) : tn p ≤ m := by
  rcases Nat.lt_or_ge m (tn p) with h1 | h1
  · exact absurd (h (tn p - 1) (by omega)) (tn_last p (by omega))
  · exact h1
theorem RF_R1 {lw hw : List (List Nat)} (h : WOK lw hw) : Rl (RF lw hw) R1 (fun p v => ev p ≤ v) where
  zero := Nat.le_refl _
  one := Nat.le_refl _
  add := fun a b c d h1 h2 => by
    show ev (trimP (addP a c)) ≤ b + d
    rw [ev_trimP, ev_addP]; exact Nat.add_le_add h1 h2
  mul := fun a b c d h1 h2 => by
    show ev (trimP (mulF a c)) ≤ b * d
    rw [ev_trimP, ev_mulF]; exact Nat.mul_le_mul h1 h2
  lit := fun l => by
    show ev (if 0 < l then hw.getD l.toNat [] else lw.getD (-l).toNat []) ≤ 1
    split
    · exact (h _).2.2.2
    · exact (h _).2.1
  both := fun v => by
    show ev (trimP (addP _ _)) ≤ 2
    rw [ev_trimP, ev_addP]
    have h1 := (h v.toNat).2.1
    have h2 := (h v.toNat).2.2.2
    omega
theorem mulF_tn (a b c d : List Nat) (h1 : a.length ≤ c.length) (h2 : b.length ≤ d.length) : tn (mulF a b) ≤ (mulP c d).length := by
  by_cases h : a.length = 0 ∨ b.length = 0
  · refine Nat.le_trans (tn_of_zero _ 0 fun i _ => ?_) (Nat.zero_le _)
    rw [mulF_get]
    rcases h with h | h
    · rw [h]; rfl
    · exact cvO_nil a b h i a.length
  · rw [mulP_len c d (by omega) (by omega)]
    refine Nat.le_trans (tn_of_zero _ (a.length + b.length - 1) fun i hi => ?_) (by omega)
    rw [mulF_get]
    exact cvO_ge a b i a.length (by omega)
theorem RF_RC {lw hw : List (List Nat)} (h : WOK lw hw) : Rl (RF lw hw) RC (fun p q => p.length ≤ q.length) where
  zero := Nat.le_refl _
  one := Nat.le_refl _
  add := fun a b c d h1 h2 => by
    show (trimP (addP a c)).length ≤ (addP b d).length
    rw [trimP_len, addP_len]
    refine Nat.le_trans (tn_le _) ?_
    rw [addP_len]; omega
  mul := fun a b c d h1 h2 => by
    show (trimP (mulF a c)).length ≤ (mulP b d).length
    rw [trimP_len]
    exact mulF_tn a c b d h1 h2
  lit := fun l => by
    show (if 0 < l then hw.getD l.toNat [] else lw.getD (-l).toNat []).length ≤ (if l < 0 then [1] else [0, 1] : List Nat).length
    split
    · rw [if_neg (by omega)]; exact (h _).2.2.1
    · refine Nat.le_trans (h _).1 ?_
      split <;> simp
  both := fun v => by
    show (trimP (addP _ _)).length ≤ 2
    rw [trimP_len]
    refine Nat.le_trans (tn_le _) ?_
    rw [addP_len]
    have h1 := (h v.toNat).1
    have h2 := (h v.toNat).2.2.1
    omega
/-- The first k variables of a set. -/
def vlk (s k : Nat) : List Int := ((List.range k).filter fun i => s.testBit i).map fun i : Nat => (i : Int) + 1
theorem vlk_succ (s k : Nat) : vlk s (k + 1) = if s.testBit k then vlk s k ++ [(k : Int) + 1] else vlk s k := by
  unfold vlk
  rw [List.range_succ, List.filter_append, List.map_append]
  split
  · rename_i h; simp [h]
  · rename_i h; simp [h]
theorem vlk_len (s k : Nat) : (vlk s k).length ≤ k := by
  unfold vlk; rw [List.length_map]; have := List.length_filter_le (fun i => s.testBit i) (List.range k); simpa using this
theorem vlk_vl (s : Nat) : vlk s 128 = vl s := by
  rw [vl_eq]
  unfold vlk vlist
  rw [List.map_map]; rfl
theorem RF_wide_snoc (lw hw : List (List Nat)) (p : List Nat) (vs : List Int) (v : Int) : (RF lw hw).wide p (vs ++ [v]) = trimP (mulF ((RF lw hw).wide p vs) ((RF lw hw).both v)) := by
  unfold Rg.wide
  rw [List.foldl_append]; rfl
theorem RF_wide_ev {lw hw : List (List Nat)} (h : WOK lw hw) (vs : List Int) (p : List Nat) : ev ((RF lw hw).wide p vs) ≤ ev p * 2 ^ vs.length := by
  have := (RF_R1 h).wide vs p (ev p) (Nat.le_refl _)
  rwa [R1_wide] at this
theorem RF_wide_len {lw hw : List (List Nat)} (h : WOK lw hw) (vs : List Int) (p : List Nat) : ((RF lw hw).wide p vs).length ≤ p.length + vs.length :=
  Nat.le_trans ((RF_RC h).wide vs p p (Nat.le_refl _)) (RC_wide_len vs p)
theorem decN_two (x e n : Nat) (h : x < 2 ^ e) (he : e ≤ n) (hn : 1 ≤ n) : decN x ≤ n :=
  decN_le _ _ (Nat.lt_of_lt_of_le h (Nat.le_trans (Nat.pow_le_pow_right (by decide) he) (Nat.pow_le_pow_left (by decide) _))) hn
theorem decN_big2 (x : Nat) (h : x < big * 2 ^ 200) : decN x ≤ 10000000 :=
  decN_two x (bigE + 200) 10000000 (by rw [Nat.pow_add, ← big_eq]; exact h) (by rw [bigE_eq]; decide) (by decide)
end Cs
namespace Go.Proofs.YtcgejdlfiemjaaaDoor
theorem setsPut1 {w : World} {g : Nat} {t : TypeId} {s s' : Nat} (h : w.rowIs g t 2 (setsF [s])) (e : hi s' = hi s) : (w.setCell ⟨g, 0, none⟩ (.int .u64 (lo s' : Int))).rowIs g t 2 (setsF [s']) :=
  (h.set 0 _).congr fun i hi => by
    have : i = 0 ∨ i = 1 := by omega
    rcases this with rfl | rfl
    · rfl
    · rw [if_neg (by omega)]
      show Value.int .u64 (Cs.hi s : Int) = Value.int .u64 (Cs.hi s' : Int)
      rw [e]
theorem setsPut2 {w : World} {g : Nat} {t : TypeId} {s s' : Nat} (h : w.rowIs g t 2 (setsF [s])) (e : lo s' = lo s) : (w.setCell ⟨g, 1, none⟩ (.int .u64 (hi s' : Int))).rowIs g t 2 (setsF [s']) :=
  (h.set 1 _).congr fun i hi => by
    have : i = 0 ∨ i = 1 := by omega
    rcases this with rfl | rfl
    · rw [if_neg (by omega)]
      show Value.int .u64 (lo s : Int) = Value.int .u64 (lo s' : Int)
      rw [e]
    · rfl
set_option maxRecDepth 100000 in
set_option maxHeartbeats 1000000 in
theorem rfull_any (w : World) (n : Nat) (hn : n ≤ 128) : Calls Tryd.prog 71 #[.int .i64 n] w fun e w' => e = .returned (setV (allTo n)) ∧ Below w.heap.size w w' := by
  have h0 : (w.alloc (.cells #[.int .u64 0, .int .u64 0] 59)).rowIs w.heap.size 59 2 (setsF [0]) := (pairNew w _ _ _ _ rfl).congr fun i hi => by
    have : i = 0 ∨ i = 1 := by omega
    rcases this with rfl | rfl <;> rfl
  have h1 : ((w.alloc (.cells #[.int .u64 0, .int .u64 0] 59)).alloc (.cells #[.int .u64 0, .int .u64 0] 59)).rowIs (w.heap.size + 1) 59 2 (setsF [0]) := (pairNew _ _ _ _ _ (by simp)).congr fun i hi => by
    have : i = 0 ∨ i = 1 := by omega
    rcases this with rfl | rfl <;> rfl
  have hbl : Below w.heap.size w ((w.alloc (.cells #[.int .u64 0, .int .u64 0] 59)).alloc (.cells #[.int .u64 0, .int .u64 0] 59)) := ((Below.refl _ _).alloc (Nat.le_refl _) _).alloc (by simp) _
  have hz : allTo ((0 : Nat) : Int) = 0 := by decide
  go_enter Tryd.func71, Tryd.ntmps71
  go_wp2
  go_loopw [4] (fun t wr => ∃ k : Nat, k ≤ n ∧ t = .int .i64 ((k : Int) + 1) ∧ wr.rowIs (w.heap.size + 1) 59 2 (setsF [allTo (k : Int)]) ∧ wr.rowIs w.heap.size 59 2 (setsF [0]) ∧ Below w.heap.size w wr) (fun t _ => n + 1 - (intOf t).toNat)
  case atStart => exact ⟨0, by omega, rfl, by rw [hz]; exact h1, h0.alloc _, hbl⟩
  case round =>
    clear h0 h1 hbl hz
    obtain ⟨k, hk, rfl, hs, hr, hbl⟩ := hrel
    have hss := setPair hs
    obtain ⟨hs1, hs2, hs3, hs4⟩ := hss
    by_cases hlt : k < n
    · have hts := allTo_succ k (by omega)
      unfold wth at hts
      rw [if_pos (by omega), show ((k : Int) + 1).toNat - 1 = k by omega] at hts
      obtain ⟨s, hs0⟩ : ∃ s, allTo (k : Int) = s := ⟨_, rfl⟩
      rw [hs0] at hts hs hs1 hs2
      have HTS := Lib.hid hts
      clear hts hs0
      have e0 : IntKind.i64.wrap ((k : Int) + 1) = (k : Int) + 1 := by rw [IntKind.wrap_i64]; omega
      have e1 : (k : Int) + 1 - 1 = (k : Int) := by omega
      rcases Nat.lt_or_ge k 64 with h64 | h64
      · have e2 : (k : Int) / 64 = 0 := by omega
        have e3 : (k : Int) % 64 = (k : Int) := by omega
        have e4 := wrap_two k h64
        have e5 := u64_or_nat (lo s) (2 ^ k) (lo_lt s) (Nat.pow_lt_pow_right (by decide) h64)
        simp only [Int.natCast_pow, Int.cast_ofNat_Int] at e5
        have e6 : lo (s ||| 2 ^ k) = lo s ||| 2 ^ k := by rw [lo_or, lo_two, if_pos h64]
        have e7 : hi (s ||| 2 ^ k) = hi s := by rw [hi_or, hi_two k (by omega), if_pos h64]; simp
        have hp := setsPut1 hs e7
        rw [e6, HTS.out] at hp
        have HPP := Lib.hid hp
        clear e6 e7 hp
        go_wp2
        go_roundw
        case rel => exact ⟨k + 1, by omega, by go_num, HPP.out, hr.setOther (by simp) _, hbl.setCell (by simp) _⟩
        case measure => simp [intOf]; omega
      · have e2 : (k : Int) / 64 = 1 := by omega
        have e3 : (k : Int) % 64 = (k : Int) - 64 := by omega
        have e4 := wrap_two (k - 64) (by omega)
        have e5 := u64_or_nat (hi s) (2 ^ (k - 64)) (hi_lt s) (Nat.pow_lt_pow_right (by decide) (show k - 64 < 64 by omega))
        simp only [Int.natCast_pow, Int.cast_ofNat_Int] at e5
        have e6 : hi (s ||| 2 ^ k) = hi s ||| 2 ^ (k - 64) := by rw [hi_or, hi_two k (by omega), if_neg (by omega)]
        have e7 : lo (s ||| 2 ^ k) = lo s := by rw [lo_or, lo_two, if_neg (by omega)]; simp
        have i0 : (0 : Int) ≤ (k : Int) - 64 := by omega
        have i1 : ((k : Int) - 64).toNat = k - 64 := by omega
        have hp := setsPut2 hs e7
        rw [e6, HTS.out] at hp
        have HPP := Lib.hid hp
        clear e6 e7 hp
        go_wp2
        go_roundw
        case rel => exact ⟨k + 1, by omega, by go_num, HPP.out, hr.setOther (by simp) _, hbl.setCell (by simp) _⟩
        case measure => simp [intOf]; omega
    · obtain rfl : k = n := by omega
      have hrs := setPair hr
      obtain ⟨hr1, hr2, hr3, hr4⟩ := hrs
      have hfin := ((hr.set 0 (.int .u64 (lo (allTo (k : Int)) : Int))).set 1 (.int .u64 (hi (allTo (k : Int)) : Int)))
      have HFN := Lib.hid hfin
      clear hfin hlt
      go_wp2
      refine ret_set rfl (allTo (k : Int)) rfl HFN.out rfl rfl rfl ⟨rfl, (hbl.setCell (by simp) _).setCell (by simp) _⟩
end Go.Proofs.YtcgejdlfiemjaaaDoor
