/- Plain facts: the counts as sums over assignments; the truth of nets; each model of a deterministic net is counted once. -/
import Derived.Test.YtgnobohfnhpkdaaGreatDoorQ1
import Derived.Test.YtgnobohfnhpkdaaGreatDoorS2
set_option linter.unusedSimpArgs false
set_option linter.unusedVariables false
section
open Go Go.RowKit Cs
namespace Cs
theorem CN : CR (RN 0) where
  addc := Nat.add_comm
  adda := Nat.add_assoc
  mulc := Nat.mul_comm
  mula := Nat.mul_assoc
  zadd := Nat.zero_add
  omul := Nat.one_mul
  zmul := Nat.zero_mul
  dist := Nat.mul_add
def mlt (N : Nt) (s : Nat) : Nat := (RN 0).mult N s
abbrev sN (f : Nat → Nat) (m : Nat) : Nat := (RN 0).sumTo f m
theorem sN_zero (f : Nat → Nat) : sN f 0 = 0 := rfl
theorem sN_succ (f : Nat → Nat) (m : Nat) : sN f (m + 1) = sN f m + f m := rfl
theorem sN_congr (f g : Nat → Nat) (m : Nat) (h : ∀ i, i < m → f i = g i) : sN f m = sN g m := sumTo_congr f g m h
theorem sN_one (c t : Nat) : ∀ m, sN (fun i => if i = t then c else 0) m = if t < m then c else 0
  | 0 => by simp [sN_zero]
  | m + 1 => by
    rw [sN_succ, sN_one c t m]
    by_cases h : t < m
    · rw [if_pos h, if_neg (by omega), if_pos (by omega)]; rfl
    · by_cases h1 : m = t
      · rw [if_neg h, if_pos h1, if_pos (by omega)]; exact Nat.zero_add _
      · rw [if_neg h, if_neg h1, if_neg (by omega)]
section
variable {N : Nt} (hv : vld N = true) (hd : dcmp N = true) (n : Nat) (hn : N.n = (n : Int))
include hv hd hn
theorem wit_expand (W : Int → Nat) : ((RN 0).wit W).sum N = sN (fun s => (RN 0).term W n s * mlt N s) (2 ^ n) := expand CN hv hd W n hn
omit hv hd hn in
theorem term_all (W : Int → Nat) (s : Nat) : ∀ k, (∀ i, i < k → (if s.testBit i then W ((i : Int) + 1) else W (-((i : Int) + 1))) = 1) → (RN 0).term W k s = 1
  | 0, _ => rfl
  | k + 1, h => by
    show (RN 0).term W k s * (if s.testBit k then _ else _) = 1
    rw [term_all W s k fun i hi => h i (by omega), h k (by omega)]
omit hv hd hn in
theorem term_zero (W : Int → Nat) (s : Nat) (j : Nat) (hj : (if s.testBit j then W ((j : Int) + 1) else W (-((j : Int) + 1))) = 0) : ∀ k, j < k → (RN 0).term W k s = 0
  | 0, h => absurd h (by omega)
  | k + 1, h => by
    show (RN 0).term W k s * (if s.testBit k then _ else _) = 0
    by_cases h1 : j = k
    · subst h1; rw [hj]; rfl
    · rw [term_zero W s j hj k (by omega), Nat.zero_mul]
omit hv hd hn in
omit hv hd hn in
omit hv hd hn in
omit hv hd hn in
omit hv hd hn in
omit hv hd hn in
omit hv hd hn in
omit hv hd hn in
omit hv hd hn in
omit hv hd hn in
end
end Cs
namespace Cs
def hld (s : Nat) (l : Int) : Bool := decide (litVar l ≠ 0) && (s.testBit ((litVar l).toNat - 1) == decide (0 < l))
def evStart (s : Nat) (x : Nd) : Bool := decide (x.kind = 1) || decide (x.kind = 3) || (decide (x.kind = 2) && hld s x.lit)
def evIn (acc : List Bool) (x : Nd) (b : Bool) (k : Int) : Bool := if x.kind = 3 then b && acc.getD k.toNat false else b || acc.getD k.toNat false
def evStep (s : Nat) (acc : List Bool) (x : Nd) : Bool := x.ins.foldl (evIn acc x) (evStart s x)
def truth (s : Nat) (l : List Nd) : List Bool := scan (evStep s) [] l
def evB (N : Nt) (s : Nat) : Bool := (truth s N.l).getD (N.l.length - 1) false
theorem truth_len (s : Nat) (l : List Nd) : (truth s l).length = l.length := by unfold truth; rw [scan_length]; simp
def bools (L : List Bool) : List Value := L.map .bool
theorem bools_get (L : List Bool) (i : Nat) (h : i < L.length) : (bools L)[i]? = some (.bool (L.getD i false)) := by
  unfold bools
  rw [List.getElem?_map, List.getElem?_eq_getElem h, List.getD_eq_getElem?_getD, List.getElem?_eq_getElem h]; rfl
theorem bools_snoc (L : List Bool) (b : Bool) : bools (L ++ [b]) = bools L ++ [.bool b] := by unfold bools; simp
def boolF (L : List Bool) (i : Nat) : Value := .bool (L.getD i false)
theorem formed_kinds {x : Nd} {n b : Int} (h : formed x n b = true) : x.kind = 0 ∨ x.kind = 1 ∨ x.kind = 2 ∨ x.kind = 3 ∨ x.kind = 4 := by
  rcases formed_kind h with ⟨h1 | h1 | h1, _⟩ | h1 | h1
  · exact .inl h1
  · exact .inr (.inl h1)
  · exact .inr (.inr (.inl h1))
  · exact .inr (.inr (.inr (.inl h1)))
  · exact .inr (.inr (.inr (.inr h1)))
theorem oneBool {b : Bool} (u : Value) (h : u ∈ [Value.bool b]) : u.oneCell' = true := by
  simp at h; subst h; rfl
end Cs
namespace Cs
def cnt4 (T : List Bool) (x : Nd) : Nat := if x.kind = 4 then x.ins.countP fun j => T.getD j.toNat false else 0
def detAt (N : Nt) (s : Nat) : Bool := N.l.all fun x => decide (cnt4 (truth s N.l) x ≤ 1)
theorem detAt_yes {N : Nt} {s : Nat} (h : ∀ i (hi : i < N.l.length), cnt4 (truth s N.l) N.l[i] ≤ 1) : detAt N s = true := by
  unfold detAt
  rw [List.all_eq_true]
  intro x hx
  obtain ⟨i, hi, rfl⟩ := List.getElem_of_mem hx
  exact decide_eq_true (h i hi)
theorem detAt_no {N : Nt} {s i : Nat} (hi : i < N.l.length) (h : 1 < cnt4 (truth s N.l) N.l[i]) : detAt N s = false := by
  cases ha : detAt N s
  · rfl
  · unfold detAt at ha
    rw [List.all_eq_true] at ha
    have := of_decide_eq_true (ha _ (List.getElem_mem hi))
    omega
end Cs
namespace Cs
theorem ind_lit {l n : Int} (s : Nat) (h : litOk l n = true) : (RN 0).ind s l = if hld s l then 1 else 0 := by
  have hr := litOk_rng' h
  have hlv : litVar l = if 0 < l then l else -l := by unfold litVar; repeat' split <;> omega
  unfold Rg.ind hld
  by_cases h0 : 0 < l
  · have e : litVar l = l := by rw [hlv, if_pos h0]
    rw [if_pos h0, e, decide_eq_true (show l ≠ 0 by omega), decide_eq_true h0, Bool.true_and, show (l - 1).toNat = l.toNat - 1 by omega]
    cases s.testBit (l.toNat - 1) <;> rfl
  · have e : litVar l = -l := by rw [hlv, if_neg h0]
    rw [if_neg h0, e, decide_eq_true (show -l ≠ 0 by omega), decide_eq_false h0, Bool.true_and, show (-l - 1).toNat = (-l).toNat - 1 by omega]
    cases s.testBit ((-l).toNat - 1) <;> rfl
theorem ind_both (s : Nat) (v : Int) (h : 1 ≤ v) : (RN 0).ind s v + (RN 0).ind s (-v) = 1 := by
  have e1 : (RN 0).ind s v = if s.testBit (v - 1).toNat then 1 else 0 := by unfold Rg.ind; rw [if_pos (by omega)]; rfl
  have e2 : (RN 0).ind s (-v) = if s.testBit (v - 1).toNat then 0 else 1 := by unfold Rg.ind; rw [if_neg (show ¬ 0 < -v by omega), Int.neg_neg]; rfl
  rw [e1, e2]
  cases s.testBit (v - 1).toNat <;> rfl
theorem ind_wide (s : Nat) : ∀ (vs : List Int) (x : Nat), (∀ v ∈ vs, 1 ≤ v) → ((RN 0).wit ((RN 0).ind s)).wide x vs = x
  | [], _, _ => rfl
  | v :: vs, x, h => by
    show ((RN 0).wit ((RN 0).ind s)).wide (x * ((RN 0).ind s v + (RN 0).ind s (-v))) vs = x
    rw [ind_both s v (h v (by simp)), Nat.mul_one]
    exact ind_wide s vs x fun u hu => h u (by simp [hu])
theorem ind_gap (s : Nat) (O acc : List Nat) (all k : Nat) : ((RN 0).wit ((RN 0).ind s)).gap O acc all k = acc.getD k 0 := ind_wide s _ _ (vl_pos _)
def b1 (b : Bool) : Nat := if b then 1 else 0
theorem fold_and (x : Nd) (h3 : x.kind = 3) (R : Rg Nat) (hR : R.mul = (· * ·)) (hz : R.zero = 0) (O acc : List Nat) (T : List Bool) : ∀ (ks : List Int) (p : Nat) (b : Bool), (∀ k ∈ ks, acc.getD k.toNat 0 = b1 (T.getD k.toNat false)) → p = b1 b →
    ks.foldl (R.in1 O acc x) p = b1 (ks.foldl (evIn T x) b)
  | [], p, b, _, h => h
  | k :: ks, p, b, hk, h => by
    have e1 : R.in1 O acc x p k = p * acc.getD k.toNat 0 := by unfold Rg.in1; rw [if_pos (.inr h3), hR, hz]
    have e2 : evIn T x b k = (b && T.getD k.toNat false) := by unfold evIn; rw [if_pos h3]
    show ks.foldl (R.in1 O acc x) (R.in1 O acc x p k) = b1 (ks.foldl (evIn T x) (evIn T x b k))
    refine fold_and x h3 R hR hz O acc T ks _ _ (fun k' hk' => hk k' (by simp [hk'])) ?_
    rw [e1, e2, h, hk k (by simp)]
    cases b <;> cases T.getD k.toNat false <;> rfl
theorem fold_or (x : Nd) (h4 : x.kind = 4) (s : Nat) (O acc : List Nat) (T : List Bool) : ∀ (ks : List Int) (p : Nat), (∀ k ∈ ks, acc.getD k.toNat 0 = b1 (T.getD k.toNat false)) →
    ks.foldl (((RN 0).wit ((RN 0).ind s)).in1 O acc x) p = p + ks.countP fun j => T.getD j.toNat false
  | [], p, _ => by simp
  | k :: ks, p, hk => by
    have e1 : ((RN 0).wit ((RN 0).ind s)).in1 O acc x p k = p + acc.getD k.toNat 0 := by
      unfold Rg.in1
      rw [if_neg (by omega), ind_gap]; rfl
    show ks.foldl _ (((RN 0).wit ((RN 0).ind s)).in1 O acc x p k) = _
    rw [fold_or x h4 s O acc T ks _ (fun k' hk' => hk k' (by simp [hk'])), e1, hk k (by simp), List.countP_cons]
    cases T.getD k.toNat false <;> simp [b1] <;> omega
theorem fold_ev (x : Nd) (h4 : x.kind ≠ 3) (T : List Bool) : ∀ (ks : List Int) (b : Bool), ks.foldl (evIn T x) b = (b || ks.any fun j => T.getD j.toNat false)
  | [], b => by simp
  | k :: ks, b => by
    show ks.foldl (evIn T x) (evIn T x b k) = _
    rw [fold_ev x h4 T ks, List.any_cons, ← Bool.or_assoc]
    congr 1
    unfold evIn; rw [if_neg h4]
theorem any_count (f : Int → Bool) : ∀ ks : List Int, ks.any f = decide (0 < ks.countP f)
  | [] => rfl
  | k :: ks => by
    rw [List.any_cons, any_count f ks, List.countP_cons]
    cases f k <;> simp
theorem scan_at {α : Type} (f : List α → Nd → α) (d : α) (l : List Nd) (k : Nat) (hk : k < l.length) : (scan f [] l).getD k d = f (scan f [] (l.take k)) l[k] := by
  rw [← scan_get f d l (k + 1) k (by omega) (by omega), scan_take _ _ k hk, List.getD_eq_getElem?_getD, List.getElem?_append_right (by rw [scan_len _ _ _ (by omega)]; exact Nat.le_refl _), scan_len _ _ _ (by omega), Nat.sub_self]; rfl
theorem ind_truth {N : Nt} (hv : vld N = true) (s : Nat) (hdet : detAt N s = true) : ∀ (m k : Nat), k < m → k < N.l.length → (((RN 0).wit ((RN 0).ind s)).all (own N.l) N.l).getD k 0 = b1 ((truth s N.l).getD k false)
  | m + 1, k, hkm, hk => by
    have hfm := vld_formed hv k hk
    have ih : ∀ j ∈ N.l[k].ins, (scan (((RN 0).wit ((RN 0).ind s)).step (own N.l)) [] (N.l.take k)).getD j.toNat 0 = b1 ((scan (evStep s) [] (N.l.take k)).getD j.toNat false) := fun j hj => by
      obtain ⟨q, rfl, hq⟩ := formed_mem hfm j hj
      rw [Int.toNat_natCast, scan_get _ _ _ k q (by omega) hq, scan_get _ _ _ k q (by omega) hq]
      exact ind_truth hv s hdet m q (by omega) (by omega)
    unfold Rg.all truth
    rw [scan_at _ _ _ k hk, scan_at _ _ _ k hk]
    rw [show ∀ L x, Rg.step ((RN 0).wit ((RN 0).ind s)) (own N.l) L x = x.ins.foldl (((RN 0).wit ((RN 0).ind s)).in1 (own N.l) L x) (((RN 0).wit ((RN 0).ind s)).start x) from fun _ _ => rfl,
      show ∀ L x, evStep s L x = x.ins.foldl (evIn L x) (evStart s x) from fun _ _ => rfl]
    by_cases h2 : N.l[k].kind = 2
    · obtain ⟨hl, hin⟩ := formed_litOk hfm h2
      rw [hin]
      show Rg.start _ _ = b1 (evStart s _)
      unfold Rg.start evStart
      rw [if_pos h2, h2]
      show (RN 0).ind s N.l[k].lit = _
      rw [ind_lit s hl]; rfl
    · by_cases h3 : N.l[k].kind = 3
      · have e1 : Rg.start ((RN 0).wit ((RN 0).ind s)) N.l[k] = 1 := by unfold Rg.start; rw [if_neg h2, if_pos (.inr h3)]; rfl
        have e2 : evStart s N.l[k] = true := by unfold evStart; rw [h3]; rfl
        rw [e1, e2]
        exact fold_and _ h3 _ rfl rfl _ _ _ _ _ _ ih rfl
      · by_cases h4 : N.l[k].kind = 4
        · have e1 : Rg.start ((RN 0).wit ((RN 0).ind s)) N.l[k] = 0 := by unfold Rg.start; rw [if_neg h2, if_neg (by omega)]; rfl
          have e2 : evStart s N.l[k] = false := by unfold evStart; rw [h4]; rfl
          rw [e1, e2, fold_or _ h4 s _ _ _ _ _ ih, fold_ev _ h3, any_count, Bool.false_or, Nat.zero_add]
          have hc : N.l[k].ins.countP (fun j => (scan (evStep s) [] (N.l.take k)).getD j.toNat false) ≤ 1 := by
            unfold detAt at hdet
            rw [List.all_eq_true] at hdet
            have h := of_decide_eq_true (hdet _ (List.getElem_mem hk))
            unfold cnt4 at h
            rw [if_pos h4] at h
            refine Nat.le_trans (Nat.le_of_eq ?_) h
            refine List.countP_congr fun j hj => ?_
            obtain ⟨q, rfl, hq⟩ := formed_mem hfm j hj
            rw [Int.toNat_natCast, scan_get _ _ _ k q (by omega) hq]; rfl
          obtain ⟨C, hC⟩ : ∃ C, N.l[k].ins.countP (fun j => (scan (evStep s) [] (N.l.take k)).getD j.toNat false) = C := ⟨_, rfl⟩
          rw [hC] at hc ⊢
          match C, hc with
          | 0, _ => rfl
          | 1, _ => rfl
        · have h01 : N.l[k].kind = 0 ∨ N.l[k].kind = 1 := by
            rcases formed_kinds hfm with h | h | h | h | h <;> omega
          have hin : N.l[k].ins = [] := by
            rcases formed_kind hfm with ⟨_, h⟩ | h | h
            · exact List.length_eq_zero_iff.1 h
            · omega
            · omega
          rw [hin]
          show Rg.start _ _ = b1 (evStart s _)
          unfold Rg.start evStart
          rcases h01 with h | h
          · rw [h]; rfl
          · rw [h]; rfl
theorem mlt_ev {N : Nt} (hv : vld N = true) (s : Nat) (hdet : detAt N s = true) : mlt N s = b1 (evB N s) := by
  obtain ⟨_, _, hl0, _⟩ := vld_bounds hv
  show ((RN 0).wit ((RN 0).ind s)).gap _ _ _ _ = _
  rw [ind_gap]
  exact ind_truth hv s hdet N.l.length (N.l.length - 1) (by omega) (by omega)
end Cs
end
