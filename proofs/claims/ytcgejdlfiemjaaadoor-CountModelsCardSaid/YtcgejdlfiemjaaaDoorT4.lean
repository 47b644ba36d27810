/- In a deterministic net each model is counted once. -/
import Derived.Test.YtcgejdlfiemjaaaDoorT2
import Derived.Test.YtcgejdlfiemjaaaDoorE3
set_option linter.unusedSimpArgs false
set_option linter.unusedVariables false
open Go Go.RowKit Cs
namespace Cs
theorem ind_lit {l n : Int} (s : Nat) (h : litOk l n = true) : (RN 0).ind s l = if hld s l then 1 else 0 := by
  have hr := litOk_rng' h
  have hlv : litVar l = if 0 < l then l else -l := by unfold litVar; repeat' split <;> omega
  unfold Rg.ind hld
  by_cases h0 : 0 < l
  · have e : litVar l = l := by rw [hlv, if_pos h0]
    rw [if_pos h0, e, decide_eq_true (show l ≠ 0 by omega), decide_eq_true h0, Bool.true_and, show (l - 1).toNat = l.toNat - 1 by omega]
    cases s.testBit (l.toNat - 1) <;> rfl
  · have e : litVar l = -l := by rw [hlv, if_neg h0]
    rw [if_neg h0, e, decide_eq_true (show -l ≠ 0 by omega), decide_eq_false h0, Bool.true_and, show (-l - 1).toNat = (-l).toNat - 1 by omega]
    cases s.testBit ((-l).toNat - 1) <;> rfl
theorem ind_both (s : Nat) (v : Int) (h : 1 ≤ v) : (RN 0).ind s v + (RN 0).ind s (-v) = 1 := by
  have e1 : (RN 0).ind s v = if s.testBit (v - 1).toNat then 1 else 0 := by unfold Rg.ind; rw [if_pos (by omega)]; rfl
  have e2 : (RN 0).ind s (-v) = if s.testBit (v - 1).toNat then 0 else 1 := by unfold Rg.ind; rw [if_neg (show ¬ 0 < -v by omega), Int.neg_neg]; rfl
  rw [e1, e2]
  cases s.testBit (v - 1).toNat <;> rfl
theorem ind_wide (s : Nat) : ∀ (vs : List Int) (x : Nat), (∀ v ∈ vs, 1 ≤ v) → ((RN 0).wit ((RN 0).ind s)).wide x vs = x
  | [], _, _ => rfl
  | v :: vs, x, h => by
    show ((RN 0).wit ((RN 0).ind s)).wide (x * ((RN 0).ind s v + (RN 0).ind s (-v))) vs = x
    rw [ind_both s v (h v (by simp)), Nat.mul_one]
    exact ind_wide s vs x fun u hu => h u (by simp [hu])
theorem ind_gap (s : Nat) (O acc : List Nat) (all k : Nat) : ((RN 0).wit ((RN 0).ind s)).gap O acc all k = acc.getD k 0 := ind_wide s _ _ (vl_pos _)
def b1 (b : Bool) : Nat := if b then 1 else 0
theorem fold_and (x : Nd) (h3 : x.kind = 3) (R : Rg Nat) (hR : R.mul = (· * ·)) (hz : R.zero = 0) (O acc : List Nat) (T : List Bool) : ∀ (ks : List Int) (p : Nat) (b : Bool), (∀ k ∈ ks, acc.getD k.toNat 0 = b1 (T.getD k.toNat false)) → p = b1 b →
    ks.foldl (R.in1 O acc x) p = b1 (ks.foldl (evIn T x) b)
  | [], p, b, _, h => h
  | k :: ks, p, b, hk, h => by
    have e1 : R.in1 O acc x p k = p * acc.getD k.toNat 0 := by unfold Rg.in1; rw [if_pos (.inr h3), hR, hz]
    have e2 : evIn T x b k = (b && T.getD k.toNat false) := by unfold evIn; rw [if_pos h3]
    show ks.foldl (R.in1 O acc x) (R.in1 O acc x p k) = b1 (ks.foldl (evIn T x) (evIn T x b k))
    refine fold_and x h3 R hR hz O acc T ks _ _ (fun k' hk' => hk k' (by simp [hk'])) ?_
    rw [e1, e2, h, hk k (by simp)]
    cases b <;> cases T.getD k.toNat false <;> rfl
theorem fold_or (x : Nd) (h4 : x.kind = 4) (s : Nat) (O acc : List Nat) (T : List Bool) : ∀ (ks : List Int) (p : Nat), (∀ k ∈ ks, acc.getD k.toNat 0 = b1 (T.getD k.toNat false)) →
    ks.foldl (((RN 0).wit ((RN 0).ind s)).in1 O acc x) p = p + ks.countP fun j => T.getD j.toNat false
  | [], p, _ => by simp
  | k :: ks, p, hk => by
    have e1 : ((RN 0).wit ((RN 0).ind s)).in1 O acc x p k = p + acc.getD k.toNat 0 := by
      unfold Rg.in1
      rw [if_neg (by omega), ind_gap]; rfl
    show ks.foldl _ (((RN 0).wit ((RN 0).ind s)).in1 O acc x p k) = _
    rw [fold_or x h4 s O acc T ks _ (fun k' hk' => hk k' (by simp [hk'])), e1, hk k (by simp), List.countP_cons]
    cases T.getD k.toNat false <;> simp [b1] <;> omega
theorem fold_ev (x : Nd) (h4 : x.kind ≠ 3) (T : List Bool) : ∀ (ks : List Int) (b : Bool), ks.foldl (evIn T x) b = (b || ks.any fun j => T.getD j.toNat false)
  | [], b => by simp
  | k :: ks, b => by
    show ks.foldl (evIn T x) (evIn T x b k) = _
    rw [fold_ev x h4 T ks, List.any_cons, ← Bool.or_assoc]
    congr 1
    unfold evIn; rw [if_neg h4]
theorem any_count (f : Int → Bool) : ∀ ks : List Int, ks.any f = decide (0 < ks.countP f)
  | [] => rfl
  | k :: ks => by
    rw [List.any_cons, any_count f ks, List.countP_cons]
    cases f k <;> simp
theorem scan_at {α : Type} (f : List α → Nd → α) (d : α) (l : List Nd) (k : Nat) (hk : k < l.length) : (scan f [] l).getD k d = f (scan f [] (l.take k)) l[k] := by
  rw [← scan_get f d l (k + 1) k (by omega) (by omega), scan_take _ _ k hk, List.getD_eq_getElem?_getD, List.getElem?_append_right (by rw [scan_len _ _ _ (by omega)]; exact Nat.le_refl _), scan_len _ _ _ (by omega), Nat.sub_self]; rfl
/-- In a deterministic net a node is counted once, or not. -/
theorem ind_truth {N : Nt} (hv : vld N = true) (s : Nat) (hdet : detAt N s = true) : ∀ (m k : Nat), k < m → k < N.l.length → (((RN 0).wit ((RN 0).ind s)).all (own N.l) N.l).getD k 0 = b1 ((truth s N.l).getD k false)
  | m + 1, k, hkm, hk => by
    have hfm := vld_formed hv k hk
    have ih : ∀ j ∈ N.l[k].ins, (scan (((RN 0).wit ((RN 0).ind s)).step (own N.l)) [] (N.l.take k)).getD j.toNat 0 = b1 ((scan (evStep s) [] (N.l.take k)).getD j.toNat false) := fun j hj => by
      obtain ⟨q, rfl, hq⟩ := formed_mem hfm j hj
      rw [Int.toNat_natCast, scan_get _ _ _ k q (by omega) hq, scan_get _ _ _ k q (by omega) hq]
      exact ind_truth hv s hdet m q (by omega) (by omega)
    unfold Rg.all truth
    rw [scan_at _ _ _ k hk, scan_at _ _ _ k hk]
    rw [show ∀ L x, Rg.step ((RN 0).wit ((RN 0).ind s)) (own N.l) L x = x.ins.foldl (((RN 0).wit ((RN 0).ind s)).in1 (own N.l) L x) (((RN 0).wit ((RN 0).ind s)).start x) from fun _ _ => rfl,
      show ∀ L x, evStep s L x = x.ins.foldl (evIn L x) (evStart s x) from fun _ _ => rfl]
    by_cases h2 : N.l[k].kind = 2
    · obtain ⟨hl, hin⟩ := formed_litOk hfm h2
      rw [hin]
      show Rg.start _ _ = b1 (evStart s _)
      unfold Rg.start evStart
      rw [if_pos h2, h2]
      show (RN 0).ind s N.l[k].lit = _
      rw [ind_lit s hl]; rfl
    · by_cases h3 : N.l[k].kind = 3
      · have e1 : Rg.start ((RN 0).wit ((RN 0).ind s)) N.l[k] = 1 := by unfold Rg.start; rw [if_neg h2, if_pos (.inr h3)]; rfl
        have e2 : evStart s N.l[k] = true := by unfold evStart; rw [h3]; rfl
        rw [e1, e2]
        exact fold_and _ h3 _ rfl rfl _ _ _ _ _ _ ih rfl
      · by_cases h4 : N.l[k].kind = 4
        · have e1 : Rg.start ((RN 0).wit ((RN 0).ind s)) N.l[k] = 0 := by unfold Rg.start; rw [if_neg h2, if_neg (by omega)]; rfl
          have e2 : evStart s N.l[k] = false := by unfold evStart; rw [h4]; rfl
          rw [e1, e2, fold_or _ h4 s _ _ _ _ _ ih, fold_ev _ h3, any_count, Bool.false_or, Nat.zero_add]
          have hc : N.l[k].ins.countP (fun j => (scan (evStep s) [] (N.l.take k)).getD j.toNat false) ≤ 1 := by
            unfold detAt at hdet
            rw [List.all_eq_true] at hdet
            have h := of_decide_eq_true (hdet _ (List.getElem_mem hk))
            unfold cnt4 at h
            rw [if_pos h4] at h
            refine Nat.le_trans (Nat.le_of_eq ?_) h
            refine List.countP_congr fun j hj => ?_
            obtain ⟨q, rfl, hq⟩ := formed_mem hfm j hj
            rw [Int.toNat_natCast, scan_get _ _ _ k q (by omega) hq]; rfl
          obtain ⟨C, hC⟩ : ∃ C, N.l[k].ins.countP (fun j => (scan (evStep s) [] (N.l.take k)).getD j.toNat false) = C := ⟨_, rfl⟩
          rw [hC] at hc ⊢
          match C, hc with
          | 0, _ => rfl
          | 1, _ => rfl
        · have h01 : N.l[k].kind = 0 ∨ N.l[k].kind = 1 := by
            rcases formed_kinds hfm with h | h | h | h | h <;> omega
          have hin : N.l[k].ins = [] := by
            rcases formed_kind hfm with ⟨_, h⟩ | h | h
            · exact List.length_eq_zero_iff.1 h
            · omega
            · omega
          rw [hin]
          show Rg.start _ _ = b1 (evStart s _)
          unfold Rg.start evStart
          rcases h01 with h | h
          · rw [h]; rfl
          · rw [h]; rfl
theorem mlt_ev {N : Nt} (hv : vld N = true) (s : Nat) (hdet : detAt N s = true) : mlt N s = b1 (evB N s) := by
  obtain ⟨_, _, hl0, _⟩ := vld_bounds hv
  show ((RN 0).wit ((RN 0).ind s)).gap _ _ _ _ = _
  rw [ind_gap]
  exact ind_truth hv s hdet N.l.length (N.l.length - 1) (by omega) (by omega)
/-- The numbers that the law counts, after k sets. -/
def noF (N : Nt) (m k v : Nat) : Nat := if 1 ≤ v ∧ v ≤ m then sN (fun s => if s.testBit (v - 1) then 0 else b1 (evB N s)) k else 0
def yesF (N : Nt) (m k v : Nat) : Nat := if 1 ≤ v ∧ v ≤ m then sN (fun s => if s.testBit (v - 1) then b1 (evB N s) else 0) k else 0
def cardF (N : Nt) (k j : Nat) : Nat := sN (fun s => if pcn 64 s = j then b1 (evB N s) else 0) k
def allF (N : Nt) (k : Nat) : Nat := sN (fun s => b1 (evB N s)) k
theorem b1_le (b : Bool) : b1 b ≤ 1 := by cases b <;> decide
theorem sN_bd (f : Nat → Nat) (h : ∀ s, f s ≤ 1) : ∀ k, sN f k ≤ k
  | 0 => Nat.le_refl _
  | k + 1 => by rw [sN_succ]; have := sN_bd f h k; have := h k; omega
theorem noF_le (N : Nt) (m k v : Nat) : noF N m k v ≤ k := by
  unfold noF; split
  · exact sN_bd _ (fun s => by split; · omega
                               · exact b1_le _) k
  · omega
theorem yesF_le (N : Nt) (m k v : Nat) : yesF N m k v ≤ k := by
  unfold yesF; split
  · exact sN_bd _ (fun s => by split; · exact b1_le _
                               · omega) k
  · omega
theorem cardF_le (N : Nt) (k j : Nat) : cardF N k j ≤ k := sN_bd _ (fun s => by split; · exact b1_le _
                                                                                · omega) k
theorem allF_le (N : Nt) (k : Nat) : allF N k ≤ k := sN_bd _ (fun s => b1_le _) k
theorem pcn_more (s m : Nat) (h : s < 2 ^ m) : ∀ d, pcn (m + d) s = pcn m s
  | 0 => rfl
  | d + 1 => by
    show pcn (m + d) s + (if s.testBit (m + d) then 1 else 0) = _
    rw [pcn_more s m h d, Nat.testBit_lt_two_pow (Nat.lt_of_lt_of_le h (Nat.pow_le_pow_right (by decide) (by omega)))]; simp
theorem models_all {N : Nt} (m : Nat) (hm : N.n = (m : Int)) (hm64 : m ≤ 64) (hk : cchk N = 0) (ha : ap2 N m = true) :
    cntN N = allF N (2 ^ m) ∧ (∀ v, v ≤ m → (lowL N m).getD v 0 = noF N m (2 ^ m) v) ∧ (∀ v, v ≤ m → (highL N m).getD v 0 = yesF N m (2 ^ m) v) ∧ ∀ v, v ≤ m → (cardL N m).getD v 0 = cardF N (2 ^ m) v := by
  obtain ⟨hv, hd, hs⟩ := cchk_zero hk
  have hmlt : ∀ s, s < 2 ^ m → mlt N s = b1 (evB N s) := fun s hs => mlt_ev hv s (ap2_det ha s hs)
  refine ⟨?_, fun v hvm => ?_, fun v hvm => ?_, fun v hvm => ?_⟩
  · unfold cntN; rw [if_pos hk, cnt_sum hv hd m hm]
    exact sN_congr _ _ _ hmlt
  · match v, hvm with
    | 0, _ => rfl
    | v + 1, hvm =>
      unfold lowL noF
      rw [if_pos ⟨by omega, hvm⟩]
      have e : (0 :: (List.range m).map fun i : Nat => (RN ((i : Int) + 1)).sum N).getD (v + 1) 0 = (RN ((v : Int) + 1)).sum N := by simp [List.getD, show v < m by omega]
      rw [e, low_sum hv hd m hm v (by omega)]
      refine sN_congr _ _ _ fun s hs => ?_
      rw [hmlt s hs]; rfl
  · match v, hvm with
    | 0, _ => rfl
    | v + 1, hvm =>
      unfold highL yesF
      rw [if_pos ⟨by omega, hvm⟩]
      have e : (0 :: (List.range m).map fun i : Nat => (RN (-((i : Int) + 1))).sum N).getD (v + 1) 0 = (RN (-((v : Int) + 1))).sum N := by simp [List.getD, show v < m by omega]
      rw [e, high_sum hv hd m hm v (by omega)]
      refine sN_congr _ _ _ fun s hs => ?_
      rw [hmlt s hs]; rfl
  · rw [cardL_get, if_pos (by omega), card_sum hv hd m hm v (by omega)]
    refine sN_congr _ _ _ fun s hs => ?_
    rw [hmlt s hs, show 64 = m + (64 - m) by omega, pcn_more s m hs]
end Cs
