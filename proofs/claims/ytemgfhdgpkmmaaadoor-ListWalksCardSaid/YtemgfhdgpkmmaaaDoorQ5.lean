/- Plain facts: what Seek finds. -/
import Derived.Test.YtemgfhdgpkmmaaaDoorQ4
set_option linter.unusedSimpArgs false
set_option linter.unusedVariables false
section
open Go Go.RowKit Cs
namespace Cs
def tnAll (acc : List Tn) (ins : List Int) : Tn :=
  ⟨ins.foldl (fun s k => s ||| upToN (acc.getD k.toNat ⟨0, 0⟩).set (othr (lows (ins.map fun k => (acc.getD k.toNat ⟨0, 0⟩).far)) (acc.getD k.toNat ⟨0, 0⟩).far)) 0, (lows (ins.map fun k => (acc.getD k.toNat ⟨0, 0⟩).far)).1⟩
def tnIn (O : List Nat) (acc : List Tn) (a : Nat) (t : Tn) (k : Int) : Tn :=
  if 0 < (acc.getD k.toNat ⟨0, 0⟩).far then ⟨t.set ||| tnWide a (acc.getD k.toNat ⟨0, 0⟩) (O.getD acc.length 0) (O.getD k.toNat 0), max t.far (acc.getD k.toNat ⟨0, 0⟩).far⟩ else t
def tnStart (a : Nat) (x : Nd) : Tn :=
  if x.kind = 1 then ⟨0, 129⟩
  else if x.kind = 2 then (if has a (litVar x.lit) = decide (0 < x.lit) then ⟨0, 129⟩ else ⟨if 0 < x.lit then wth 0 (litVar x.lit) else 0, (litVar x.lit).toNat⟩)
  else ⟨0, 0⟩
def tnStep (O : List Nat) (a : Nat) (acc : List Tn) (x : Nd) : Tn := if x.kind = 3 then tnAll acc x.ins else x.ins.foldl (tnIn O acc a) (tnStart a x)
def tns (N : Nt) (a : Nat) : List Tn := scan (tnStep (own N.l) a) [] N.l
/-- What the program's turns returns. -/
def turnsN (N : Nt) (a : Nat) : Nat :=
  let t := (tns N a).getD (N.l.length - 1) ⟨0, 0⟩
  if t.far = 0 then 0 else tnWide a t (allTo N.n) ((own N.l).getD (N.l.length - 1) 0)
/-- The greatest of a list. -/
def maxL : List Int → Int
  | [] => 0
  | x :: xs => xs.foldl max x
theorem foldl_max : ∀ (xs : List Int) (x : Int), (xs.foldl max x = x ∨ xs.foldl max x ∈ xs) ∧ x ≤ xs.foldl max x ∧ ∀ y ∈ xs, y ≤ xs.foldl max x
  | [], x => ⟨.inl rfl, Int.le_refl _, fun y hy => by cases hy⟩
  | z :: zs, x => by
    obtain ⟨h1, h2, h3⟩ := foldl_max zs (max x z)
    show (zs.foldl max (max x z) = x ∨ zs.foldl max (max x z) ∈ z :: zs) ∧ x ≤ zs.foldl max (max x z) ∧ ∀ y ∈ z :: zs, y ≤ zs.foldl max (max x z)
    refine ⟨?_, by omega, fun y hy => ?_⟩
    · rcases h1 with h1 | h1
      · rw [h1]
        by_cases h : x ≤ z
        · right; rw [Int.max_eq_right h]; simp
        · left; rw [Int.max_eq_left (by omega)]
      · right; simp [h1]
    · rcases List.mem_cons.1 hy with rfl | hy
      · omega
      · exact h3 y hy
theorem maxL_spec (l : List Int) (h : l ≠ []) : maxL l ∈ l ∧ ∀ y ∈ l, y ≤ maxL l := by
  match l, h with
  | x :: xs, _ =>
    obtain ⟨h1, h2, h3⟩ := foldl_max xs x
    refine ⟨?_, fun y hy => ?_⟩
    · show xs.foldl max x ∈ x :: xs
      rcases h1 with h1 | h1
      · rw [h1]; simp
      · simp [h1]
    · rcases List.mem_cons.1 hy with rfl | hy
      · exact h2
      · exact h3 y hy
def afterN (N : Nt) (a : Nat) : Pt := if vl (turnsN N a) = [] then ⟨0, false⟩ else leastN N (wth a (maxL (vl (turnsN N a)))) (allTo (maxL (vl (turnsN N a))))
def seekN (N : Nt) (a : Nat) : Pt := if evB N a then ⟨a, true⟩ else afterN N a
theorem apart_pair (O : List Nat) : ∀ (ks : List Int) (s : Nat), apart O s ks = true → (∀ j (h : j < ks.length), s &&& O.getD ks[j].toNat 0 = 0) ∧ ∀ i j (hi : i < ks.length) (hj : j < ks.length), i ≠ j → O.getD ks[i].toNat 0 &&& O.getD ks[j].toNat 0 = 0
  | [], s, _ => ⟨fun j h => by simp at h, fun i j h => by simp at h⟩
  | k :: ks, s, h => by
    unfold apart at h
    split at h
    · rename_i h0
      obtain ⟨h1, h2⟩ := apart_pair O ks _ h
      have h3 : ∀ j (hj : j < ks.length), s &&& O.getD ks[j].toNat 0 = 0 ∧ O.getD k.toNat 0 &&& O.getD ks[j].toNat 0 = 0 := fun j hj => by
        have h4 := h1 j hj
        refine ⟨and_zero_bits fun i a b => ?_, and_zero_bits fun i a b => ?_⟩
        · exact and_zero_no h4 (i := i) (by rw [Nat.testBit_or, a]; rfl) b
        · exact and_zero_no h4 (i := i) (by rw [Nat.testBit_or, a, Bool.or_true]) b
      refine ⟨fun j hj => ?_, fun i j hi hj hij => ?_⟩
      · match j, hj with
        | 0, _ => exact h0
        | j + 1, hj => exact (h3 j (by simpa using hj)).1
      · match i, j, hi, hj, hij with
        | 0, 0, _, _, hij => exact absurd rfl hij
        | 0, j + 1, _, hj, _ => exact (h3 j (by simpa using hj)).2
        | i + 1, 0, hi, _, _ => rw [Nat.and_comm]; exact (h3 i (by simpa using hi)).2
        | i + 1, j + 1, hi, hj, hij => exact h2 i j (by simpa using hi) (by simpa using hj) (by omega)
    · cases h
theorem fold_or_bit (f : Int → Nat) (b : Nat) : ∀ (ks : List Int) (s : Nat), (ks.foldl (fun s k => s ||| f k) s).testBit b = true ↔ (s.testBit b = true ∨ ∃ i, ∃ h : i < ks.length, (f ks[i]).testBit b = true)
  | [], s => by simp
  | k :: ks, s => by
    show (ks.foldl _ (s ||| f k)).testBit b = true ↔ _
    rw [fold_or_bit f b ks, Nat.testBit_or, Bool.or_eq_true]
    constructor
    · rintro ((h | h) | ⟨i, hi, h⟩)
      · exact .inl h
      · exact .inr ⟨0, by simp, h⟩
      · exact .inr ⟨i + 1, by simpa using hi, h⟩
    · rintro (h | ⟨i, hi, h⟩)
      · exact .inl (.inl h)
      · match i, hi, h with
        | 0, _, h => exact .inl (.inr h)
        | i + 1, hi, h => exact .inr ⟨i, by simpa using hi, h⟩
theorem own_lt (l : List Nd) (k i : Nat) (h : ((own l).getD k 0).testBit i = true) : i < 128 := by
  have hs : IsSet ((own l).getD k 0) := isSet_scan l [] (fun j => by simp [isSet_zero]) k
  rcases Nat.lt_or_ge i 128 with h1 | h1
  · exact h1
  · rw [Nat.testBit_lt_two_pow (Nat.lt_of_lt_of_le (show (own l).getD k 0 < 2 ^ 128 by unfold IsSet at hs; omega) (Nat.pow_le_pow_right (n := 2) (by decide) h1))] at h; cases h
theorem lit_trn {n : Int} (a : Nat) (x : Nd) (hl : litOk x.lit n = true) (h2 : x.kind = 2) : Trn a (wth 0 (litVar x.lit)) (fun s => hld s x.lit = true) (tnStart a x) := by
  have hr := litOk_rng' hl
  have hlv : litVar x.lit = if 0 < x.lit then x.lit else -x.lit := by unfold litVar; repeat' split <;> omega
  have hb := litVar_le x.lit
  obtain ⟨v, hv⟩ : ∃ v : Nat, litVar x.lit = (v : Int) + 1 := ⟨(litVar x.lit).toNat - 1, by split at hlv <;> omega⟩
  have hv128 : v < 128 := by omega
  have hbit : ∀ i, (wth 0 (litVar x.lit)).testBit i = decide (i = v) := fun i => by
    rw [wth_bit]; exact decide_eq_decide.2 (by omega)
  have hh : ∀ s, hld s x.lit = (s.testBit v == decide (0 < x.lit)) := fun s => by
    unfold hld
    rw [decide_eq_true (show litVar x.lit ≠ 0 by omega), Bool.true_and, show (litVar x.lit).toNat - 1 = v by omega]
  have hha : ∀ s, has s (litVar x.lit) = s.testBit v := fun s => by
    unfold has
    rw [decide_eq_true (show 1 ≤ litVar x.lit ∧ litVar x.lit ≤ 128 by omega), Bool.true_and, show (litVar x.lit).toNat - 1 = v by omega]
  have he : tnStart a x = if a.testBit v = decide (0 < x.lit) then ⟨0, 129⟩ else ⟨if decide (0 < x.lit) = true then wth 0 (litVar x.lit) else 0, v + 1⟩ := by
    unfold tnStart
    rw [if_neg (by omega), if_pos h2, hha, show (litVar x.lit).toNat = v + 1 by omega]
    by_cases h : 0 < x.lit <;> simp [h]
  rw [he]
  obtain ⟨S, hS⟩ : ∃ b, decide (0 < x.lit) = b := ⟨_, rfl⟩
  simp only [hh, hS]
  have hU : ∀ i, (wth 0 (litVar x.lit)).testBit i = true ↔ i = v := fun i => by rw [hbit]; exact decide_eq_true_iff
  have hdep : ∀ s t : Nat, (∀ i, (wth 0 (litVar x.lit)).testBit i = true → s.testBit i = t.testBit i) → (s.testBit v == S) = true → (t.testBit v == S) = true := fun s t hst hs => by
    rw [← hst v ((hU v).2 rfl)]; exact hs
  by_cases hm : a.testBit v = S
  · rw [if_pos hm]
    refine ⟨hdep, Nat.le_refl _, fun _ => ⟨a, by rw [hm]; simp, fun _ _ _ => rfl⟩, fun s _ w hw _ => hw, fun i => ⟨fun h => by simp at h, ?_⟩⟩
    rintro ⟨h1, h3, s, h4, h5, _⟩
    have : i = v := (hU i).1 h1
    subst this
    rw [h5] at h4
    rw [h3] at hm
    rw [← hm] at h4; simp at h4
  · rw [if_neg hm]
    have hw : ∃ s : Nat, s.testBit v = S := by
      cases S
      · exact ⟨0, by simp⟩
      · exact ⟨2 ^ v, by simp⟩
    obtain ⟨s0, hs0⟩ := hw
    refine ⟨hdep, by show v + 1 ≤ 129; omega, fun _ => ⟨s0, by rw [hs0]; simp, fun i hi hl => ?_⟩, fun s hs w hw hag => ?_, fun i => ?_⟩
    · have := (hU i).1 hi
      have : i + 1 < v + 1 := hl
      omega
    · show w ≤ v + 1
      rcases Nat.lt_or_ge (v + 1) w with h | h
      · have h1 := hag v ((hU v).2 rfl) h
        have h3 : s.testBit v = S := by simpa using hs
        exact absurd (by rw [← h1, h3]) hm
      · exact h
    · show (if S = true then wth 0 (litVar x.lit) else 0).testBit i = true ↔ _
      rw [hU]
      constructor
      · intro h
        split at h
        · rename_i hS1
          have : i = v := (hU i).1 h
          subst this
          have ha0 : a.testBit i = false := by
            cases ha : a.testBit i
            · rfl
            · rw [ha, hS1] at hm; exact absurd rfl hm
          exact ⟨rfl, ha0, s0, by rw [hs0]; simp, by rw [hs0, hS1], fun j hj hji => by have := (hU j).1 hj; omega⟩
        · simp at h
      · rintro ⟨rfl, h3, s, h4, h5, _⟩
        rw [h5] at h4
        have hS1 : S = true := by cases S <;> simp_all
        rw [if_pos hS1]
        exact (hU i).2 rfl
theorem fold_or_trn {a : Nat} (O : List Nat) (acc : List Tn) (hO : ∀ k i, (O.getD k 0).testBit i = true → i < 128) (Mj : Nat → Nat → Prop) : ∀ (ks : List Int) (M : Nat → Prop) (t : Tn), (∀ j ∈ ks, Trn a (O.getD j.toNat 0) (Mj j.toNat) (acc.getD j.toNat ⟨0, 0⟩) ∧ ∀ i, (O.getD j.toNat 0).testBit i = true → (O.getD acc.length 0).testBit i = true) → Trn a (O.getD acc.length 0) M t →
    Trn a (O.getD acc.length 0) (fun s => M s ∨ ∃ j ∈ ks, Mj j.toNat s) (ks.foldl (tnIn O acc a) t)
  | [], M, t, _, h => h.congr fun s => ⟨.inl, fun hs => hs.elim id fun ⟨j, hj, _⟩ => by cases hj⟩
  | k :: ks, M, t, hL, h => by
    have hk := hL k (by simp)
    have h2 := h.or (hk.1.wide hk.2 (hO _))
    have e : tnIn O acc a t k = (if 0 < (acc.getD k.toNat ⟨0, 0⟩).far then ⟨t.set ||| tnWide a (acc.getD k.toNat ⟨0, 0⟩) (O.getD acc.length 0) (O.getD k.toNat 0), max t.far (acc.getD k.toNat ⟨0, 0⟩).far⟩ else t) := rfl
    show Trn a _ _ (ks.foldl _ (tnIn O acc a t k))
    rw [e]
    refine (fold_or_trn O acc hO Mj ks _ _ (fun j hj => hL j (by simp [hj])) h2).congr fun s => ?_
    constructor
    · rintro ((h1 | h1) | ⟨j, hj, h1⟩)
      · exact .inl h1
      · exact .inr ⟨k, by simp, h1⟩
      · exact .inr ⟨j, by simp [hj], h1⟩
    · rintro (h1 | ⟨j, hj, h1⟩)
      · exact .inl (.inl h1)
      · rcases List.mem_cons.1 hj with rfl | hj
        · exact .inl (.inr h1)
        · exact .inr ⟨j, hj, h1⟩
theorem tns_trn {N : Nt} (hv : vld N = true) (hd : dcmp N = true) (a : Nat) : ∀ (m k : Nat), k < m → k < N.l.length → Trn a ((own N.l).getD k 0) (MdN N k) ((tns N a).getD k ⟨0, 0⟩)
  | m + 1, k, hkm, hk => by
    have hfm := vld_formed hv k hk
    have hacc : ∀ j ∈ N.l[k].ins, Trn a ((own N.l).getD j.toNat 0) (MdN N j.toNat) ((scan (tnStep (own N.l) a) [] (N.l.take k)).getD j.toNat ⟨0, 0⟩) := fun j hj => by
      obtain ⟨q, rfl, hq⟩ := formed_mem hfm j hj
      rw [Int.toNat_natCast, scan_get _ _ _ k q (by omega) hq]
      exact tns_trn hv hd a m q (by omega) (by omega)
    unfold tns
    rw [scan_at _ _ _ k hk]
    have hlen : (scan (tnStep (own N.l) a) [] (N.l.take k)).length = k := scan_len _ _ _ (by omega)
    rcases truth_kinds hv k hk with ⟨h, hin, ho, hM⟩ | ⟨h, hin, ho, hM⟩ | ⟨h, hin, hl, ho, hM⟩ | ⟨h, ho, hM⟩ | ⟨h, ho, hM⟩
    · have e : tnStep (own N.l) a (scan (tnStep (own N.l) a) [] (N.l.take k)) N.l[k] = ⟨0, 0⟩ := by
        unfold tnStep tnStart; rw [if_neg (by omega), hin, if_neg (by omega), if_neg (by omega)]; rfl
      rw [e, ho]
      exact (Trn.no a 0).congr fun s => ⟨False.elim, fun h => hM s h⟩
    · have e : tnStep (own N.l) a (scan (tnStep (own N.l) a) [] (N.l.take k)) N.l[k] = ⟨0, 129⟩ := by
        unfold tnStep tnStart; rw [if_neg (by omega), hin, if_pos h]; rfl
      rw [e, ho]
      exact (Trn.yes a).congr fun s => ⟨fun _ => hM s, fun _ => trivial⟩
    · have e : tnStep (own N.l) a (scan (tnStep (own N.l) a) [] (N.l.take k)) N.l[k] = tnStart a N.l[k] := by
        unfold tnStep; rw [if_neg (by omega), hin]; rfl
      rw [e, ho]
      exact (lit_trn a _ hl h).congr fun s => (hM s).symm
    · have e : tnStep (own N.l) a (scan (tnStep (own N.l) a) [] (N.l.take k)) N.l[k] = tnAll (scan (tnStep (own N.l) a) [] (N.l.take k)) N.l[k].ins := by unfold tnStep; rw [if_pos h]
      rw [e]
      have hap := apart_pair _ _ _ (dcmpL_at _ _ k hk hd h)
      obtain ⟨acc, hac⟩ : ∃ acc, scan (tnStep (own N.l) a) [] (N.l.take k) = acc := ⟨_, rfl⟩
      rw [hac] at hacc ⊢
      obtain ⟨ins, hins⟩ : ∃ ins, N.l[k].ins = ins := ⟨_, rfl⟩
      rw [hins] at hacc hap ho hM ⊢
      have hg : ∀ i (hi : i < ins.length), ins.getD i 0 = ins[i] := fun i hi => by simp [List.getD, hi]
      refine (Trn.all (a := a) (n := ins.length) (fun i => (own N.l).getD (ins.getD i 0).toNat 0) (fun i => MdN N (ins.getD i 0).toNat) (fun i => acc.getD (ins.getD i 0).toNat ⟨0, 0⟩) (ins.map fun k => (acc.getD k.toNat ⟨0, 0⟩).far) (by simp) (fun i hi => by
        rw [List.getElem_map]; simp only [hg i (by simpa using hi)]) (fun i _ b hb => own_lt _ _ _ hb) _ _ (fun i j hi hj hij => by simp only [hg i hi, hg j hj]; exact hap.2 i j hi hj hij) (fun i hi => by simp only [hg i hi]; exact hacc _ (List.getElem_mem hi)) (fun b => ?_) (fun b => ?_)).congr fun s => ?_
      · rw [ho, fold_or_bit (fun j => (own N.l).getD j.toNat 0), Nat.zero_testBit]
        constructor
        · rintro (h | ⟨i, hi, h⟩)
          · cases h
          · exact ⟨i, hi, by simp only [hg i hi]; exact h⟩
        · rintro ⟨i, hi, h⟩
          simp only [hg i hi] at h
          exact .inr ⟨i, hi, h⟩
      · rw [fold_or_bit (fun k => upToN (acc.getD k.toNat ⟨0, 0⟩).set (othr (lows (ins.map fun k => (acc.getD k.toNat ⟨0, 0⟩).far)) (acc.getD k.toNat ⟨0, 0⟩).far)), Nat.zero_testBit]
        constructor
        · rintro (h | ⟨i, hi, h⟩)
          · cases h
          · exact ⟨i, hi, by simp only [hg i hi]; exact h⟩
        · rintro ⟨i, hi, h⟩
          simp only [hg i hi] at h
          exact .inr ⟨i, hi, h⟩
      · rw [hM]
        constructor
        · intro h j hj
          obtain ⟨i, hi, rfl⟩ := List.getElem_of_mem hj
          have := h i hi
          simp only [hg i hi] at this
          exact this
        · intro h i hi
          simp only [hg i hi]
          exact h _ (List.getElem_mem hi)
    · have e : tnStep (own N.l) a (scan (tnStep (own N.l) a) [] (N.l.take k)) N.l[k] = N.l[k].ins.foldl (tnIn (own N.l) (scan (tnStep (own N.l) a) [] (N.l.take k)) a) ⟨0, 0⟩ := by
        unfold tnStep tnStart; rw [if_neg (by omega), if_neg (by omega), if_neg (by omega)]
      rw [e]
      have h2 := fold_or_trn (a := a) (own N.l) (scan (tnStep (own N.l) a) [] (N.l.take k)) (fun k i hi => own_lt _ k i hi) (MdN N) N.l[k].ins (fun _ => False) ⟨0, 0⟩ (fun j hj => ⟨hacc j hj, fun i hi => by rw [hlen]; exact ho j hj i hi⟩) (Trn.no a _)
      rw [hlen] at h2
      refine h2.congr fun s => ?_
      rw [hM]
      exact ⟨fun h => h.elim False.elim id, .inr⟩
theorem allTo_lt {n : Int} {i : Nat} (h : (allTo n).testBit i = true) : i < 128 ∧ (i : Int) < n := by
  rw [allTo_bit, decide_eq_true_iff] at h; omega
/-- The variables in which a later model can differ first. -/
theorem turns_bit {N : Nt} (hv : vld N = true) (hd : dcmp N = true) (a i : Nat) : (turnsN N a).testBit i = true ↔ ((i : Int) < N.n ∧ a.testBit i = false ∧ ∃ s, evB N s = true ∧ s.testBit i = true ∧ ∀ j : Nat, j < i → s.testBit j = a.testBit j) := by
  obtain ⟨hn0, hn1, hl0, hl1⟩ := vld_bounds hv
  have h := (tns_trn hv hd a N.l.length (N.l.length - 1) (by omega) (by omega)).wide (V := allTo N.n) (fun i hi => by
    have := own_sub hv N.l.length (N.l.length - 1) (by omega) (by omega) i hi
    rw [allTo_bit]; simp; omega) fun i hi => (allTo_lt hi).1
  have hall : ∀ i, (allTo N.n).testBit i = true ↔ (i : Int) < N.n := fun i => by rw [allTo_bit, decide_eq_true_iff]; omega
  unfold turnsN
  obtain ⟨t, ht⟩ : ∃ t, (tns N a).getD (N.l.length - 1) ⟨0, 0⟩ = t := ⟨_, rfl⟩
  rw [ht] at h
  simp only [ht]
  by_cases hf : t.far = 0
  · rw [if_pos hf, Nat.zero_testBit]
    refine ⟨fun h => (by cases h), ?_⟩
    rintro ⟨_, _, s, h3, _⟩
    have := h.pos (s := s) h3
    have : 0 < t.far := this
    omega
  · rw [if_neg hf]
    refine (h.set i).trans ?_
    rw [hall]
    constructor
    · rintro ⟨h1, h2, s, h3, h4, h5⟩
      exact ⟨h1, h2, s, h3, h4, fun j hji => h5 j ((hall j).2 (by omega)) hji⟩
    · rintro ⟨h1, h2, s, h3, h4, h5⟩
      exact ⟨h1, h2, s, h3, h4, fun j _ hji => h5 j hji⟩
/-- s has no variable beyond n. -/
def In (n : Int) (s : Nat) : Prop := ∀ i, s.testBit i = true → (i : Int) < n
theorem In.isSet {n : Int} {s : Nat} (h : In n s) (hn : n ≤ 128) : IsSet s := by
  have : s < 2 ^ 128 := Nat.lt_pow_two_of_testBit _ fun i hi => by
    cases hb : s.testBit i
    · rfl
    · have := h i hb; omega
  unfold IsSet; omega
theorem In.and {n : Int} {s : Nat} (h : In n s) (hn : n ≤ 128) : s &&& allTo n = s := by
  apply Nat.eq_of_testBit_eq
  intro i
  rw [Nat.testBit_and, allTo_bit]
  cases hb : s.testBit i
  · rfl
  · have := h i hb
    rw [Bool.true_and]; exact decide_eq_true (by omega)
theorem wth_testBit (a v i : Nat) (hv : v < 128) : (wth a ((v : Int) + 1)).testBit i = (a.testBit i || decide (i = v)) := by
  unfold wth
  rw [if_pos (by omega), Nat.testBit_or, Nat.testBit_two_pow, show ((v : Int) + 1).toNat - 1 = v by omega]
  congr 1
  exact decide_eq_decide.2 (by omega)
/-- What after finds: the first model that comes later. -/
theorem after_spec {N : Nt} (hv : vld N = true) (hd : dcmp N = true) (a : Nat) (ha : In N.n a) :
    ((afterN N a).ok = true → evB N (afterN N a).set = true ∧ In N.n (afterN N a).set ∧ key a < key (afterN N a).set ∧ ∀ s, In N.n s → evB N s = true → key a < key s → key (afterN N a).set ≤ key s) ∧
    ((afterN N a).ok = false → (afterN N a).set = 0 ∧ ∀ s, In N.n s → evB N s = true → ¬ key a < key s) := by
  obtain ⟨hn0, hn1, _, _⟩ := vld_bounds hv
  have hT := turns_bit hv hd a
  have hlater : ∀ s, In N.n s → evB N s = true → key a < key s → ∃ m, (turnsN N a).testBit m = true ∧ (∀ i, i < m → a.testBit i = s.testBit i) ∧ a.testBit m = false ∧ s.testBit m = true := fun s hs he hk => by
    obtain ⟨m, hm, h1, h2, h3⟩ := key_lt (ha.isSet hn1) (hs.isSet hn1) hk
    exact ⟨m, (hT m).2 ⟨hs m h3, h2, s, he, h3, fun j hj => (h1 j hj).symm⟩, h1, h2, h3⟩
  unfold afterN
  by_cases hl : vl (turnsN N a) = []
  · rw [if_pos hl]
    refine ⟨fun h => (by cases h), fun _ => ⟨rfl, fun s hs he hk => ?_⟩⟩
    obtain ⟨m, h1, h2, h3, h4⟩ := hlater s hs he hk
    have := (mem_vl (s := turnsN N a) (i := m) (by have := hs m h4; omega)).2 h1
    rw [hl] at this; cases this
  · rw [if_neg hl]
    obtain ⟨hm1, hm2⟩ := maxL_spec _ hl
    obtain ⟨i0, hb, hi0⟩ := vl_mem hm1
    rw [hi0]
    obtain ⟨b1, b2, s1, b3, b4, b5⟩ := (hT i0).1 hb
    have h128 : i0 < 128 := by omega
    have hL := least_lst hv hd (wth a ((i0 : Int) + 1)) (allTo ((i0 : Int) + 1))
    have hall : ∀ i, (allTo ((i0 : Int) + 1)).testBit i = true ↔ i ≤ i0 := fun i => by rw [allTo_bit, decide_eq_true_iff]; omega
    have hag : ∀ s : Nat, s.testBit i0 = true → (∀ j, j < i0 → s.testBit j = a.testBit j) → agr (wth a ((i0 : Int) + 1)) (allTo ((i0 : Int) + 1)) (allTo N.n) s := fun s h1 h2 i _ hi => by
      rw [wth_testBit _ _ _ h128]
      have hi' := (hall i).1 hi
      rcases Nat.lt_or_ge i i0 with h3 | h3
      · rw [h2 i h3, decide_eq_false (by omega), Bool.or_false]
      · have : i = i0 := by omega
        subst this
        rw [h1]; simp
    obtain ⟨p, hp⟩ : ∃ p, leastN N (wth a ((i0 : Int) + 1)) (allTo ((i0 : Int) + 1)) = p := ⟨_, rfl⟩
    rw [hp] at hL ⊢
    obtain ⟨hok, _⟩ := hL.min s1 b3 (hag s1 b4 b5)
    refine ⟨fun _ => ?_, fun h => by rw [hok] at h; cases h⟩
    obtain ⟨h1, h2⟩ := hL.mem hok
    have hin : In N.n p.set := fun i hi => (allTo_lt (hL.sub hok i hi)).2
    have hset : ∀ i, i ≤ i0 → p.set.testBit i = (a.testBit i || decide (i = i0)) := fun i hi => by
      rw [← wth_testBit _ _ _ h128]
      exact h2 i (by rw [allTo_bit, decide_eq_true_iff]; omega) ((hall i).2 hi)
    have hlt : key a < key p.set := key_first h128 (fun i hi => by rw [hset i (by omega), decide_eq_false (by omega), Bool.or_false]) b2 (by rw [hset i0 (by omega)]; simp)
    refine ⟨h1, hin, hlt, fun s hs he hk => ?_⟩
    obtain ⟨m, k1, k2, k3, k4⟩ := hlater s hs he hk
    have hmle : m ≤ i0 := by
      have := hm2 _ ((mem_vl (s := turnsN N a) (i := m) (by have := hs m k4; omega)).2 k1)
      omega
    rcases Nat.lt_or_ge m i0 with h3 | h3
    · have := key_first (s := p.set) (t := s) (m := m) (by omega) (fun i hi => by rw [hset i (by omega), decide_eq_false (by omega), Bool.or_false, k2 i hi]) (by rw [hset m (by omega), k3, decide_eq_false (by omega)]; rfl) k4
      omega
    · have : m = i0 := by omega
      subst this
      have := (hL.min s he (hag s k4 fun j hj => (k2 j hj).symm)).2
      rw [hs.and hn1] at this
      exact this
/-- What Seek finds: the least model that does not come before a. -/
theorem seek_spec {N : Nt} (hv : vld N = true) (hd : dcmp N = true) (a : Nat) (ha : In N.n a) :
    ((seekN N a).ok = true → evB N (seekN N a).set = true ∧ In N.n (seekN N a).set ∧ key a ≤ key (seekN N a).set ∧ ∀ s, In N.n s → evB N s = true → key a ≤ key s → key (seekN N a).set ≤ key s) ∧
    ((seekN N a).ok = false → (seekN N a).set = 0 ∧ ∀ s, In N.n s → evB N s = true → key s < key a) := by
  obtain ⟨hn0, hn1, _, _⟩ := vld_bounds hv
  obtain ⟨h1, h2⟩ := after_spec hv hd a ha
  unfold seekN
  cases he : evB N a
  · rw [if_neg (by decide)]
    have hne : ∀ s, In N.n s → evB N s = true → key a ≤ key s → key a < key s := fun s hs hes hk => by
      rcases Nat.lt_or_ge (key a) (key s) with h | h
      · exact h
      · have := key_inj (ha.isSet hn1) (hs.isSet hn1) (by omega)
        rw [this, hes] at he; cases he
    refine ⟨fun h => ?_, fun h => ?_⟩
    · obtain ⟨k1, k2, k3, k4⟩ := h1 h
      exact ⟨k1, k2, by omega, fun s hs hes hk => k4 s hs hes (hne s hs hes hk)⟩
    · obtain ⟨k1, k2⟩ := h2 h
      refine ⟨k1, fun s hs hes => ?_⟩
      rcases Nat.lt_or_ge (key s) (key a) with h | h
      · exact h
      · exact absurd (hne s hs hes h) (k2 s hs hes)
  · rw [if_pos rfl]
    exact ⟨fun _ => ⟨he, ha, Nat.le_refl _, fun s _ _ hk => hk⟩, fun h => (by cases h)⟩
end Cs
end
