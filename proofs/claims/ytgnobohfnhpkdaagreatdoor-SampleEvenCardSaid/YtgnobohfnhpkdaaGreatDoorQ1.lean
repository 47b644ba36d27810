import Derived.Test.YtgnobohfnhpkdaaGreatDoorS1
import Derived.Test.YtgnobohfnhpkdaaGreatDoorShort
import Derived.Lib.MinMax
set_option linter.unusedSimpArgs false
set_option linter.unusedVariables false
section
open Go Go.RowKit Cs
namespace Cs
def addP (a b : List Nat) : List Nat := (List.range (max a.length b.length)).map fun i => a.getD i 0 + b.getD i 0
def cvI (a b : List Nat) (i : Nat) (f : Nat → Nat) : Nat → (Nat → Nat)
 | 0 => f
 | k + 1 => fun t => cvI a b i f k t + if t = i + k then a.getD i 0 * b.getD k 0 else 0
def cvO (a b : List Nat) : Nat → (Nat → Nat)
 | 0 => fun _ => 0
 | i + 1 => cvI a b i (cvO a b i) b.length
def mulP (a b : List Nat) : List Nat := if a.length = 0 ∨ b.length = 0 then [] else (List.range (a.length + b.length - 1)).map fun t => cvO a b a.length t
theorem addP_len (a b : List Nat) : (addP a b).length = max a.length b.length := by unfold addP; simp
theorem mulP_len (a b : List Nat) (ha : a.length ≠ 0) (hb : b.length ≠ 0) : (mulP a b).length = a.length + b.length - 1 := by
 unfold mulP; rw [if_neg (by omega)]; simp
theorem getD_map_range (n : Nat) (f : Nat → Nat) (i : Nat) : ((List.range n).map f).getD i 0 = if i < n then f i else 0 := by
 rw [List.getD_eq_getElem?_getD];by_cases h : i < n
 ·rw [if_pos h, List.getElem?_map, List.getElem?_range h]; rfl
 ·rw [if_neg h, List.getElem?_eq_none (by simp; omega)]; rfl
theorem getD_ge (a : List Nat) (i : Nat) (h : a.length ≤ i) : a.getD i 0 = 0 := by
 rw [List.getD_eq_getElem?_getD, List.getElem?_eq_none h]; rfl
theorem addP_get (a b : List Nat) (i : Nat) : (addP a b).getD i 0 = a.getD i 0 + b.getD i 0 := by
 unfold addP;rw [getD_map_range];split
 ·rfl
 ·rw [getD_ge a i (by omega), getD_ge b i (by omega)]
theorem cvI_ge (a b : List Nat) (i : Nat) (f : Nat → Nat) (t : Nat) (hf : f t = 0) : ∀ k, i + k ≤ t → cvI a b i f k t = 0
 | 0, _ => hf
 | k + 1, h => by
   show cvI a b i f k t + (if t = i + k then _ else 0) = 0;rw [cvI_ge a b i f t hf k (by omega), if_neg (by omega)]
theorem cvO_ge (a b : List Nat) (t : Nat) : ∀ i, i + b.length ≤ t + 1 → cvO a b i t = 0
 | 0, _ => rfl
 | i + 1, h => by
   show cvI a b i (cvO a b i) b.length t = 0;exact cvI_ge a b i _ t (cvO_ge a b t i (by omega)) b.length (by omega)
theorem cvO_nil (a b : List Nat) (hb : b.length = 0) (t : Nat) : ∀ i, cvO a b i t = 0
 | 0 => rfl
 | i + 1 => by show cvI a b i (cvO a b i) b.length t = 0; rw [hb]; exact cvO_nil a b hb t i
theorem mulP_get (a b : List Nat) (t : Nat) : (mulP a b).getD t 0 = cvO a b a.length t := by
 unfold mulP;split
 ·rename_i h;rcases h with h | h
  ·rw [h]; rfl
  ·rw [cvO_nil a b h t]; rfl
 ·rw [getD_map_range];split
  ·rfl
  ·rw [cvO_ge a b t a.length (by omega)]
def ev (a : List Nat) : Nat := a.foldr (· + ·) 0
def sm (f : Nat → Nat) : Nat → Nat
 | 0 => 0
 | n + 1 => sm f n + f n
theorem sm_add (f g : Nat → Nat) : ∀ n, sm (fun i => f i + g i) n = sm f n + sm g n
 | 0 => rfl
 | n + 1 => by show sm _ n + (f n + g n) = (sm f n + f n) + (sm g n + g n); rw [sm_add f g n]; omega
theorem sm_zero (f : Nat → Nat) : ∀ n, (∀ i, i < n → f i = 0) → sm f n = 0
 | 0, _ => rfl
 | n + 1, h => by show sm f n + f n = 0; rw [sm_zero f n fun i hi => h i (by omega), h n (by omega)]
theorem sm_congr (f g : Nat → Nat) : ∀ n, (∀ i, i < n → f i = g i) → sm f n = sm g n
 | 0, _ => rfl
 | n + 1, h => by show sm f n + f n = sm g n + g n; rw [sm_congr f g n fun i hi => h i (by omega), h n (by omega)]
theorem sm_more (f : Nat → Nat) (n : Nat) : ∀ m, n ≤ m → (∀ i, n ≤ i → i < m → f i = 0) → sm f m = sm f n
 | 0, h, _ => by have : n = 0 := by omega
                 rw [this]
 | m + 1, h, hz => by
   by_cases h1 : n = m + 1
   ·rw [h1]
   ·show sm f m + f m = sm f n
    rw [sm_more f n m (by omega) fun i h2 h3 => hz i h2 (by omega), hz m (by omega) (by omega)]; omega
theorem sm_le (f : Nat → Nat) : ∀ n i, i < n → f i ≤ sm f n
 | n + 1, i, h => by
   show f i ≤ sm f n + f n;by_cases h1 : i = n
   ·subst h1; omega
   ·have := sm_le f n i (by omega); omega
theorem sm_mono (f : Nat → Nat) {n m : Nat} (h : n ≤ m) : sm f n ≤ sm f m := by
 induction m with
 | zero => rw [show n = 0 by omega]; exact zqn _
 | succ m ih =>
   by_cases h1 : n = m + 1
   ·rw [h1]; exact zqn _
   ·have := ih (by omega);show sm f n ≤ sm f m + f m;omega
theorem sm_one (c t n : Nat) (h : t < n) : sm (fun i => if i = t then c else 0) n = c := by
 induction n with
 | zero => omega
 | succ n ih =>
   show sm _ n + (if n = t then c else 0) = c;by_cases h1 : n = t
   ·subst h1
    rw [if_pos rfl, sm_zero _ n fun i hi => if_neg (by omega)]; omega
   ·rw [if_neg h1, ih (by omega)]; rfl
theorem sm_append (a : List Nat) (x : Nat) : ev (a ++ [x]) = ev a + x := by
 unfold ev; rw [List.foldr_append]
 induction a with
 | nil => simp
 | cons y ys ih => simp only [List.foldr_cons] at ih ⊢; rw [ih]; omega
theorem ev_range (f : Nat → Nat) : ∀ n, ev ((List.range n).map f) = sm f n
 | 0 => rfl
 | n + 1 => by rw [List.range_succ, List.map_append]; show ev (_ ++ [f n]) = _; rw [sm_append, ev_range f n]; rfl
theorem ev_sm (a : List Nat) : ev a = sm (fun i => a.getD i 0) a.length := by
 conv => lhs; rw [show a = (List.range a.length).map (fun i => a.getD i 0) from List.ext_getElem (by simp) fun i h1 h2 => by simp [List.getD, h1]]
 rw [ev_range]
theorem ev_le (a : List Nat) (i : Nat) : a.getD i 0 ≤ ev a := by
 by_cases h : i < a.length
 ·rw [ev_sm]; exact sm_le (fun i => a.getD i 0) _ _ h
 ·rw [getD_ge a i (by omega)]; omega
theorem ev_addP (a b : List Nat) : ev (addP a b) = ev a + ev b := by
 rw [ev_sm a, ev_sm b];unfold addP;rw [ev_range, sm_add]
 congr 1
 ·exact sm_more _ _ _ (by omega) fun i h1 _ => getD_ge a i h1
 ·exact sm_more _ _ _ (by omega) fun i h1 _ => getD_ge b i h1
theorem sm_cvI (a b : List Nat) (i : Nat) (f : Nat → Nat) (n : Nat) : ∀ k, i + k ≤ n → sm (cvI a b i f k) n = sm f n + a.getD i 0 * sm (fun j => b.getD j 0) k
 | 0, _ => by show sm f n = sm f n + a.getD i 0 * 0; omega
 | k + 1, h => by
   show sm (fun t => cvI a b i f k t + if t = i + k then a.getD i 0 * b.getD k 0 else 0) n = sm f n + a.getD i 0 * (sm (fun j => b.getD j 0) k + b.getD k 0)
   rw [sm_add (cvI a b i f k), sm_cvI a b i f n k (by omega), sm_one _ (i + k) n (by omega), Nat.mul_add]; omega
theorem sm_cvO (a b : List Nat) (n : Nat) : ∀ i, i + b.length ≤ n + 1 → sm (cvO a b i) n = sm (fun j => a.getD j 0) i * ev b
 | 0, _ => by show sm (fun _ => 0) n = 0 * _; rw [sm_zero _ _ fun _ _ => rfl]; omega
 | i + 1, h => by
   show sm (cvI a b i (cvO a b i) b.length) n = (sm (fun j => a.getD j 0) i + a.getD i 0) * ev b;rw [sm_cvI a b i _ n b.length (by omega), sm_cvO a b n i (by omega), ← ev_sm, Nat.add_mul]
theorem ev_mulP (a b : List Nat) : ev (mulP a b) = ev a * ev b := by
 unfold mulP;split
 ·rename_i h;rcases h with h | h
  ·rw [ev_sm a, h]; simp [sm, ev]
  ·rw [ev_sm b, h]; simp [sm, ev]
 ·rename_i h;rw [ev_range, sm_cvO a b _ a.length (by omega), ← ev_sm]
theorem cvI_le (a b : List Nat) (i k t : Nat) (hi : i < a.length) (hk : k ≤ b.length) : cvI a b i (cvO a b i) k t ≤ ev a * ev b := by
 have h1 : cvI a b i (cvO a b i) k t ≤ sm (cvI a b i (cvO a b i) k) (t + 1 + i + b.length) := sm_le _ _ _ (by omega);refine Nat.le_trans h1 ?_;rw [sm_cvI a b i _ _ k (by omega), sm_cvO a b _ i (by omega)]
 have h2 : sm (fun j => b.getD j 0) k ≤ ev b := by
  rw [ev_sm]; exact sm_mono _ hk
 have h3 : sm (fun j => a.getD j 0) (i + 1) ≤ ev a := by
  rw [ev_sm]; exact sm_mono _ hi
 have h4 : sm (fun j => a.getD j 0) (i + 1) = sm (fun j => a.getD j 0) i + a.getD i 0 := rfl;rw [h4] at h3
 calc sm (fun j => a.getD j 0) i * ev b + a.getD i 0 * sm (fun j => b.getD j 0) k ≤ sm (fun j => a.getD j 0) i * ev b + a.getD i 0 * ev b := Nat.add_le_add_left (Nat.mul_le_mul_left _ h2) _
  _ = (sm (fun j => a.getD j 0) i + a.getD i 0) * ev b := by rw [Nat.add_mul]
  _ ≤ ev a * ev b := Nat.mul_le_mul_right _ h3
def RC : Rg (List Nat) := ⟨[], [1], addP, mulP, fun l => if l < 0 then [1] else [0, 1], fun _ => [1, 1]⟩
end Cs
end
section
open Go Go.RowKit Cs
namespace Cs
theorem RC_wide_len : ∀ (vs : List Int) (p : List Nat), (RC.wide p vs).length ≤ p.length + vs.length
 | [], p => by show p.length ≤ _; simp
 | v :: vs, p => by
   have h := RC_wide_len vs (mulP p [1, 1])
   have h2 : (mulP p [1, 1]).length ≤ p.length + 1 := by
    rcases Nat.eq_zero_or_pos p.length with h0 | h0
    ·unfold mulP; rw [if_pos (.inl h0)]; simp
    ·rw [mulP_len p [1, 1] (by omega) (by decide)]; simp
   show (RC.wide (mulP p [1, 1]) vs).length ≤ p.length + (vs.length + 1);omega
end Cs
end
section
open Go Go.RowKit Cs
namespace Cs
def crd (s : Nat) : Nat := (List.range 128).countP fun i => s.testBit i
theorem crd_vl (s : Nat) : (vl s).length = crd s := by
 rw [vl_eq, List.length_map];unfold vlist crd;rw [List.length_map, List.countP_eq_length_filter]
theorem countP_or (f g : Nat → Bool) : ∀ l : List Nat, (∀ i ∈ l, (f i && g i) = false) → l.countP (fun i => f i || g i) = l.countP f + l.countP g
 | [], _ => rfl
 | x :: xs, h => by
   have h1 := h x (by simp);have h2 := countP_or f g xs fun i hi => h i (by simp [hi]);rw [List.countP_cons, List.countP_cons, List.countP_cons, h2]
   cases hf : f x <;> cases hg : g x <;> simp_all <;> omega
theorem crd_or (s t : Nat) (h : s &&& t = 0) : crd (s ||| t) = crd s + crd t := by
 unfold crd;rw [← countP_or]
 ·congr 1; funext i; rw [Nat.testBit_or]
 ·intro i _;rw [← Nat.testBit_and, h, Nat.zero_testBit]
theorem crd_minus (s t : Nat) (h : ∀ i, t.testBit i = true → s.testBit i = true) : crd (minus s t) + crd t = crd s := by
 unfold crd;rw [← countP_or]
 ·congr 1; funext i
  rw [minus_bit];have := h i
  cases h1 : s.testBit i <;> cases h2 : t.testBit i <;> simp_all
 ·intro i _;rw [minus_bit]
  cases s.testBit i <;> cases t.testBit i <;> rfl
theorem crd_le (s : Nat) : crd s ≤ 128 := by rw [← crd_vl]; exact vl_length s
theorem crd_one (i : Nat) (h : i < 128) : 1 ≤ crd (2 ^ i) := by
 unfold crd;rw [Nat.succ_le_iff, List.countP_pos_iff];exact ⟨i, by simpa using h, by simp [Nat.testBit_two_pow]⟩
theorem mulP_len_le (a b : List Nat) : (mulP a b).length ≤ a.length + b.length - 1 := by
 by_cases h : a.length = 0 ∨ b.length = 0
 ·unfold mulP; rw [if_pos h]; simp
 ·rw [mulP_len a b (by omega) (by omega)]; omega
theorem fold_bit (acc : List Nat) (i : Nat) : ∀ (ks : List Int) (s : Nat), (ks.foldl (fun s k => s ||| acc.getD k.toNat 0) s).testBit i = (s.testBit i || ks.any fun k => (acc.getD k.toNat 0).testBit i)
 | [], s => by simp
 | k :: ks, s => by
   show (ks.foldl _ (s ||| acc.getD k.toNat 0)).testBit i = _;rw [fold_bit acc i ks, Nat.testBit_or, List.any_cons, Bool.or_assoc]
theorem crd_mono (s t : Nat) (h : ∀ i, t.testBit i = true → s.testBit i = true) : crd t ≤ crd s := by
 have := crd_minus s t h; omega
theorem own_bit {N : Nt} (hv : vld N = true) (k : Nat) (hk : k < N.l.length) (i : Nat) :
  ((own N.l).getD k 0).testBit i = ((wth 0 (litVar N.l[k].lit)).testBit i || N.l[k].ins.any fun j => ((own N.l).getD j.toNat 0).testBit i) := by
 have h1 : (own N.l).getD k 0 = ownStep (scan ownStep [] (N.l.take k)) N.l[k] := by unfold own; rw [scan_step _ _ _ _ hk]
 rw [h1];show (N.l[k].ins.foldl (fun s j => s ||| (scan ownStep [] (N.l.take k)).getD j.toNat 0) (wth 0 (litVar N.l[k].lit))).testBit i = _;rw [fold_bit]
 congr 1
 have hin := Go.Proofs.YtgnobohfnhpkdaaGreatDoor.formed_ins (vld_formed hv k hk);rw [Bool.eq_iff_iff, List.any_eq_true, List.any_eq_true]
 have key : ∀ j ∈ N.l[k].ins, (scan ownStep [] (N.l.take k)).getD j.toNat 0 = (own N.l).getD j.toNat 0 := fun j hj => by
  obtain ⟨a, ha, rfl⟩ := List.getElem_of_mem hj;obtain ⟨m, hm1, hm2⟩ := hin a ha
  have : N.l[k].ins[a] = (m : Int) := by rw [← hm1]; simp [List.getD, ha]
  rw [this, Int.toNat_natCast];exact scan_get ownStep 0 N.l k m (by omega) hm2
 constructor
 ·rintro ⟨j, hj, h⟩; exact ⟨j, hj, by rw [← key j hj]; exact h⟩
 ·rintro ⟨j, hj, h⟩; exact ⟨j, hj, by rw [key j hj]; exact h⟩
theorem own_ins {N : Nt} (hv : vld N = true) (k : Nat) (hk : k < N.l.length) (j : Int) (hj : j ∈ N.l[k].ins) (i : Nat) (h : ((own N.l).getD j.toNat 0).testBit i = true) : ((own N.l).getD k 0).testBit i = true := by
 rw [own_bit hv k hk i, Bool.or_eq_true];exact .inr (List.any_eq_true.2 ⟨j, hj, h⟩)
theorem and_len (O : List Nat) (L : List (List Nat)) (x : Nd) (h3 : x.kind = 3) : ∀ (ks : List Int) (s : Nat) (p : List Nat), apart O s ks = true → (∀ k ∈ ks, (L.getD k.toNat []).length ≤ crd (O.getD k.toNat 0) + 1) → p.length ≤ crd s + 1 →
  ∀ m, ((ks.take m).foldl (RC.in1 O L x) p).length ≤ crd ((ks.take m).foldl (fun s k => s ||| O.getD k.toNat 0) s) + 1
 | [], s, p, _, _, hp, m => by simpa using hp
 | k :: ks, s, p, ha, hL, hp, 0 => by simpa using hp
 | k :: ks, s, p, ha, hL, hp, m + 1 => by
   unfold apart at ha;split at ha
   ·rename_i h0
    have h1 : RC.in1 O L x p k = mulP p (L.getD k.toNat []) := by unfold Rg.in1; rw [if_pos (.inr h3)]; rfl
    have h2 : (RC.in1 O L x p k).length ≤ crd (s ||| O.getD k.toNat 0) + 1 := by
     rw [h1, crd_or _ _ h0];have := mulP_len_le p (L.getD k.toNat []);have := hL k (by simp);omega
    exact and_len O L x h3 ks _ _ ha (fun k' hk' => hL k' (by simp [hk'])) h2 m
   ·cases ha
theorem or_len (O : List Nat) (L : List (List Nat)) (x : Nd) (h3 : ¬ (x.kind = 1 ∨ x.kind = 3)) (c : Nat) : ∀ (ks : List Int) (p : List Nat), (∀ k ∈ ks, (RC.gap O L (O.getD L.length 0) k.toNat).length ≤ c) → p.length ≤ c →
  ∀ m, ((ks.take m).foldl (RC.in1 O L x) p).length ≤ c
 | [], p, _, hp, m => by simpa using hp
 | k :: ks, p, hL, hp, 0 => by simpa using hp
 | k :: ks, p, hL, hp, m + 1 => by
   have h1 : RC.in1 O L x p k = addP p (RC.gap O L (O.getD L.length 0) k.toNat) := by unfold Rg.in1; rw [if_neg h3]; rfl
   have h2 : (RC.in1 O L x p k).length ≤ c := by
    rw [h1, addP_len];have := hL k (by simp);omega
   exact or_len O L x h3 c ks _ (fun k' hk' => hL k' (by simp [hk'])) h2 m
theorem dcmpL_at (O : List Nat) : ∀ (l : List Nd) (k : Nat) (hk : k < l.length), dcmpL O l = true → l[k].kind = 3 → apart O 0 l[k].ins = true
 | x :: xs, 0, _, h, h3 => by
   unfold dcmpL at h
   change x.kind = 3 at h3
   rw [if_pos h3, Bool.and_eq_true] at h;exact h.1
 | x :: xs, k + 1, hk, h, h3 => by
   unfold dcmpL at h
   have h2 : dcmpL O xs = true := by
    split at h
    ·rw [Bool.and_eq_true] at h; exact h.2
    ·exact h
   exact dcmpL_at O xs k (by simpa using hk) h2 h3
theorem RC_part_len {N : Nt} (hv : vld N = true) (hd : dcmp N = true) (k : Nat) (hk : k < N.l.length) (L : List (List Nat)) (hLl : L.length = k) (hL : ∀ j, j < k → (L.getD j []).length ≤ crd ((own N.l).getD j 0) + 1) (m : Nat) :
  ((N.l[k].ins.take m).foldl (RC.in1 (own N.l) L N.l[k]) (RC.start N.l[k])).length ≤ crd ((own N.l).getD k 0) + 1 := by
 have hfm := vld_formed hv k hk;have hin := Go.Proofs.YtgnobohfnhpkdaaGreatDoor.formed_ins hfm
 have hmem : ∀ j ∈ N.l[k].ins, ∃ m : Nat, j = (m : Int) ∧ m < k := fun j hj => by
  obtain ⟨a, ha, rfl⟩ := List.getElem_of_mem hj;obtain ⟨m, hm1, hm2⟩ := hin a ha;exact ⟨m, by rw [← hm1]; simp [List.getD, ha], hm2⟩
 have hLm : ∀ j ∈ N.l[k].ins, (L.getD j.toNat []).length ≤ crd ((own N.l).getD j.toNat 0) + 1 := fun j hj => by
  obtain ⟨m, rfl, hm⟩ := hmem j hj;exact hL _ (by simpa using hm)
 rcases formed_kind hfm with ⟨hkk, hil⟩ | h3 | h4
 ·rw [List.length_eq_zero_iff] at hil
  have hf : (N.l[k].ins.take m).foldl (RC.in1 (own N.l) L N.l[k]) (RC.start N.l[k]) = RC.start N.l[k] := by rw [hil]; simp
  rw [hf];unfold Rg.start;split
  ·rename_i h2
   have hlit : litOk N.l[k].lit N.n = true := by
    have h := hfm;unfold formed at h;rw [hil] at h;simp [h2] at h;exact h
   unfold litOk at hlit;simp at hlit;have hlv := litVar_le N.l[k].lit
   have h1 : 1 ≤ crd ((own N.l).getD k 0) := by
    refine Nat.le_trans (crd_one ((litVar N.l[k].lit).toNat - 1) (by omega)) (crd_mono _ _ fun i hi => ?_);rw [own_bit hv k hk i, Bool.or_eq_true]
    left
    unfold wth
    rw [if_pos (by omega), Nat.zero_or]; exact hi
   show (if N.l[k].lit < 0 then [1] else [0, 1]).length ≤ _;split
   ·show 1 ≤ _; omega
   ·show 2 ≤ _; omega
  ·split
   ·show 1 ≤ _; omega
   ·show 0 ≤ _; omega
 ·have ha := dcmpL_at (own N.l) N.l k hk hd h3;have h1 := and_len (own N.l) L N.l[k] h3 N.l[k].ins 0 (RC.start N.l[k]) ha hLm (by unfold Rg.start; rw [if_neg (by omega), if_pos (.inr h3)]; show 1 ≤ _; omega) m;refine Nat.le_trans h1 (Nat.succ_le_succ (crd_mono _ _ fun i hi => ?_));rw [fold_bit, Nat.zero_testBit, Bool.false_or, List.any_eq_true] at hi;obtain ⟨j, hj, hji⟩ := hi;exact own_ins hv k hk j (List.mem_of_mem_take hj) i hji
 ·refine or_len (own N.l) L N.l[k] (by omega) _ N.l[k].ins (RC.start N.l[k]) (fun j hj => ?_) (by unfold Rg.start; rw [if_neg (by omega), if_neg (by omega)]; show 0 ≤ _; omega) m;have h1 := hLm j hj;have h2 := crd_minus ((own N.l).getD k 0) ((own N.l).getD j.toNat 0) fun i hi => own_ins hv k hk j hj i hi;have h3 := RC_wide_len (vl (minus ((own N.l).getD k 0) ((own N.l).getD j.toNat 0))) (L.getD j.toNat []);rw [crd_vl] at h3;unfold Rg.gap;rw [hLl];show (RC.wide (L.getD j.toNat []) _).length ≤ _;omega
theorem RC_all_len {N : Nt} (hv : vld N = true) (hd : dcmp N = true) : ∀ k, k ≤ N.l.length → ∀ j, j < k → ((scan (RC.step (own N.l)) [] (N.l.take k)).getD j []).length ≤ crd ((own N.l).getD j 0) + 1 := by
 intro k
 induction k with
 | zero => intro _ j hj; omega
 | succ k ih =>
   intro hk j hj;have ih' := ih (by omega);rw [scan_take _ _ k (by omega)];have hlen := scan_len (RC.step (own N.l)) N.l k (by omega);by_cases h : j < k
   ·rw [List.getD_eq_getElem?_getD, List.getElem?_append_left (by omega), ← List.getD_eq_getElem?_getD]; exact ih' j h
   ·obtain rfl : j = k := by omega
    rw [List.getD_eq_getElem?_getD, List.getElem?_append_right (by omega), hlen, Nat.sub_self];have h1 := RC_part_len hv hd j (by omega) _ hlen ih' N.l[j].ins.length;rw [List.take_length] at h1;exact h1
end Cs
end
section
open Go Go.RowKit Cs
namespace Cs
theorem litVar_formed {x : Nd} {n before : Int} (h : formed x n before = true) (hn : 0 ≤ n) : litVar x.lit ≤ n := by
 unfold formed at h;split at h
 ·cases h
 ·split at h
  ·simp at h; rw [h.1]; exact hn
  ·split at h
   ·simp [litOk] at h; exact h.1.2
   ·split at h
    ·simp at h; rw [h]; exact hn
    ·cases h
theorem wth_zero_bit (v : Int) (i : Nat) (h : (wth 0 v).testBit i = true) : (i : Int) + 1 = v := by
 unfold wth at h;split at h
 ·rw [Nat.zero_or, Nat.testBit_two_pow] at h
  simp at h; omega
 ·simp at h
theorem own_sub {N : Nt} (hv : vld N = true) : ∀ (m k : Nat), k < m → k < N.l.length → ∀ i, ((own N.l).getD k 0).testBit i = true → (i : Int) < N.n
 | m + 1, k, hkm, hk, i, h => by
   obtain ⟨hn0, hn1, _, _⟩ := vld_bounds hv;rw [own_bit hv k hk i, Bool.or_eq_true, List.any_eq_true] at h;rcases h with h | ⟨j, hj, h⟩
   ·have h1 := wth_zero_bit _ _ h;have h2 := litVar_formed (vld_formed hv k hk) hn0;omega
   ·obtain ⟨a, ha, rfl⟩ := List.getElem_of_mem hj;obtain ⟨b, hb1, hb2⟩ := Go.Proofs.YtgnobohfnhpkdaaGreatDoor.formed_ins (vld_formed hv k hk) a ha
    have e : N.l[k].ins[a] = (b : Int) := by rw [← hb1]; simp [List.getD, ha]
    rw [e, Int.toNat_natCast] at h;exact own_sub hv m b (by omega) (by omega) i h
end Cs
namespace Cs
section
variable {α : Type}
def Rg.cut (R : Rg α) (n : Int) : Rg α := ⟨R.zero, R.one, R.add, R.mul, fun l => if litOk l n then R.lit l else R.zero, fun v => if 1 ≤ v ∧ v ≤ n then R.both v else R.zero⟩
theorem vl_mem {s : Nat} {v : Int} (h : v ∈ vl s) : ∃ i : Nat, s.testBit i = true ∧ v = (i : Int) + 1 := by
 rw [vl_eq] at h;obtain ⟨a, ha, rfl⟩ := List.mem_map.1 h;unfold vlist at ha;obtain ⟨i, hi, rfl⟩ := List.mem_map.1 ha;rw [List.mem_filter] at hi;exact ⟨i, hi.2, by simp⟩
variable (R : Rg α) (n : Int)
theorem cut_wide : ∀ (vs : List Int) (x : α), (∀ v, v ∈ vs → 1 ≤ v ∧ v ≤ n) → (R.cut n).wide x vs = R.wide x vs
 | [], x, _ => rfl
 | v :: vs, x, h => by
   have h1 := h v (by simp);show (R.cut n).wide (R.mul x (if 1 ≤ v ∧ v ≤ n then R.both v else R.zero)) vs = R.wide (R.mul x (R.both v)) vs;rw [if_pos h1];exact cut_wide vs _ fun v hv => h v (by simp [hv])
theorem cut_gap (O : List Nat) (acc : List α) (all k : Nat) (h : ∀ i, all.testBit i = true → (i : Int) < n) : (R.cut n).gap O acc all k = R.gap O acc all k := by
 unfold Rg.gap;refine cut_wide R n _ _ fun v hv => ?_;obtain ⟨i, hi, rfl⟩ := vl_mem hv;rw [minus_bit, Bool.and_eq_true] at hi;have := h i hi.1;omega
theorem cut_start (x : Nd) (b : Int) (h : formed x n b = true) : (R.cut n).start x = R.start x := by
 unfold Rg.start;by_cases h2 : x.kind = 2
 ·rw [if_pos h2, if_pos h2]
  have hlit : litOk x.lit n = true := by
   rcases formed_kind h with ⟨_, h3⟩ | h1 | h1
   ·unfold formed at h;rw [List.length_eq_zero_iff.1 h3] at h;simp [h2] at h;exact h
   ·omega
   ·omega
  show (if litOk x.lit n = true then R.lit x.lit else R.zero) = _;rw [if_pos hlit]
 ·rw [if_neg h2, if_neg h2]; rfl
theorem cut_fold (O : List Nat) (acc : List α) (x : Nd) (h : ∀ i, (O.getD acc.length 0).testBit i = true → (i : Int) < n) : ∀ (ks : List Int) (s : α), ks.foldl ((R.cut n).in1 O acc x) s = ks.foldl (R.in1 O acc x) s
 | [], s => rfl
 | k :: ks, s => by
   have h1 : (R.cut n).in1 O acc x s k = R.in1 O acc x s k := by
    unfold Rg.in1;split
    ·rfl
    ·show R.add s ((R.cut n).gap O acc (O.getD acc.length 0) k.toNat) = _;rw [cut_gap R n O acc _ _ h]
   show ks.foldl _ ((R.cut n).in1 O acc x s k) = ks.foldl _ (R.in1 O acc x s k);rw [h1];exact cut_fold O acc x h ks _
theorem cut_sum {N : Nt} (hv : vld N = true) : (R.cut N.n).sum N = R.sum N := by
 have hsc : ∀ k, k ≤ N.l.length → scan ((R.cut N.n).step (own N.l)) [] (N.l.take k) = scan (R.step (own N.l)) [] (N.l.take k) := by
  intro k
  induction k with
  | zero => intro _; rfl
  | succ k ih =>
    intro hk;have h1 := ih (by omega);rw [scan_take _ _ k (by omega), scan_take _ _ k (by omega), h1]
    congr 2
    unfold Rg.step;rw [cut_start R N.n _ _ (vld_formed hv k (by omega))];refine cut_fold R N.n _ _ _ (fun i hi => ?_) _ _;rw [scan_len _ _ _ (by omega)] at hi;exact own_sub hv N.l.length k (by omega) (by omega) i hi
 have h2 := hsc N.l.length (zqn _);rw [List.take_length] at h2;unfold Rg.sum Rg.all;rw [h2];obtain ⟨hn0, hn1, _, _⟩ := vld_bounds hv;refine cut_gap R N.n _ _ _ _ fun i hi => ?_;rw [allTo_bit] at hi;simp at hi;omega
end
structure Rv {α β : Type} (R : Rg α) (S : Rg β) (n : Int) (r : α → β → Prop) : Prop where
 zero : r R.zero S.zero
 one : r R.one S.one
 add : ∀ a b c d, r a b → r c d → r (R.add a c) (S.add b d)
 mul : ∀ a b c d, r a b → r c d → r (R.mul a c) (S.mul b d)
 lit : ∀ l, litOk l n = true → r (R.lit l) (S.lit l)
 both : ∀ v, 1 ≤ v → v ≤ n → r (R.both v) (S.both v)
theorem Rv.sum {α β : Type} {R : Rg α} {S : Rg β} {r : α → β → Prop} {N : Nt} (h : Rv R S N.n r) (hv : vld N = true) : r (R.sum N) (S.sum N) := by
 rw [← cut_sum R hv, ← cut_sum S hv];refine Rl.sum (R := R.cut N.n) (S := S.cut N.n) (r := r) ⟨h.zero, h.one, h.add, h.mul, fun l => ?_, fun v => ?_⟩ N
 ·show r (if litOk l N.n = true then R.lit l else R.zero) (if litOk l N.n = true then S.lit l else S.zero);split
  ·rename_i h1; exact h.lit l h1
  ·exact h.zero
 ·show r (if 1 ≤ v ∧ v ≤ N.n then R.both v else R.zero) (if 1 ≤ v ∧ v ≤ N.n then S.both v else S.zero);split
  ·rename_i h1; exact h.both v h1.1 h1.2
  ·exact h.zero
end Cs
namespace Cs
def Rg.wit {α : Type} (R : Rg α) (W : Int → α) : Rg α := ⟨R.zero, R.one, R.add, R.mul, W, fun v => R.add (W v) (W (-v))⟩
theorem mem_vl {s : Nat} {i : Nat} (h : i < 128) : ((i : Int) + 1 ∈ vl s) ↔ s.testBit i = true := by
 constructor
 ·intro hm;obtain ⟨j, hj, e⟩ := vl_mem hm
  have : i = j := by omega
  rw [this]; exact hj
 ·intro hb;rw [vl_eq, List.mem_map];refine ⟨i + 1, ?_, by simp⟩;unfold vlist;exact List.mem_map.2 ⟨i, List.mem_filter.2 ⟨List.mem_range.2 h, hb⟩, rfl⟩
theorem litOk_pos' {v n : Int} (h1 : 1 ≤ v) (h2 : v ≤ n) (hn : n ≤ 128) : litOk v n = true ∧ litOk (-v) n = true := by
 unfold litOk litVar
 constructor <;> refine decide_eq_true ?_ <;> (repeat' split) <;> omega
theorem litOk_rng' {l n : Int} (h : litOk l n = true) : (1 ≤ l ∧ l ≤ n ∧ l ≤ 128) ∨ (l ≤ -1 ∧ -l ≤ n ∧ -l ≤ 128) := by
 unfold litOk litVar at h;have h := of_decide_eq_true h
 revert h
 (repeat' split) <;> intro h <;> omega
theorem vl_nodup (s : Nat) : (vl s).Nodup := by
 rw [vl_eq];unfold vlist;refine List.Pairwise.map (R := (· ≠ ·)) (S := (· ≠ ·)) _ (fun a b h e => h (by omega)) (List.Pairwise.map (R := (· ≠ ·)) (S := (· ≠ ·)) _ (fun a b h e => h (by omega)) (List.Pairwise.filter _ List.nodup_range))
theorem wth_bit (l : Int) (i : Nat) : (wth 0 (litVar l)).testBit i = decide (litVar l = (i : Int) + 1) := by
 have hl := litVar_le l;obtain ⟨m, hm⟩ : ∃ m, litVar l = m := ⟨_, rfl⟩;rw [hm] at hl ⊢;unfold wth;by_cases h : 1 ≤ m ∧ m ≤ 128
 ·rw [if_pos h, Nat.zero_or, Nat.testBit_two_pow];exact decide_eq_decide.2 (by omega)
 ·rw [if_neg h, Nat.zero_testBit];exact (decide_eq_false (by omega)).symm
section
variable {α : Type} {R : Rg α}
variable {a b : α}
variable (W : Int → α) (v : Int)
theorem vl_pos (s : Nat) : ∀ u ∈ vl s, 1 ≤ u := fun u hu => by
 obtain ⟨i, _, rfl⟩ := vl_mem hu; omega
theorem formed_mem {x : Nd} {n : Int} {k : Nat} (h : formed x n (k : Int) = true) : ∀ j ∈ x.ins, ∃ m : Nat, j = (m : Int) ∧ m < k := fun j hj => by
 obtain ⟨a, ha, rfl⟩ := List.getElem_of_mem hj;obtain ⟨m, hm1, hm2⟩ := Go.Proofs.YtgnobohfnhpkdaaGreatDoor.formed_ins h a ha;exact ⟨m, by rw [← hm1]; simp [List.getD, ha], hm2⟩
theorem formed_litOk {x : Nd} {n b : Int} (h : formed x n b = true) (h2 : x.kind = 2) : litOk x.lit n = true ∧ x.ins = [] := by
 unfold formed at h
 simp [h2] at h; exact h.2
theorem scan_old {α : Type} (f : List α → Nd → α) (d : α) (xs : List Nd) (k j : Nat) (h : k < xs.length) (hj : j < k) : (scan f [] (xs.take (k + 1))).getD j d = (scan f [] (xs.take k)).getD j d := by
 rw [scan_take _ _ k h, List.getD_eq_getElem?_getD, List.getElem?_append_left (by rw [scan_len _ _ _ (by omega)]; exact hj), ← List.getD_eq_getElem?_getD]
end
end Cs
namespace Cs
section
variable {α : Type} (R : Rg α)
variable {R}
theorem wit_sum {N : Nt} (hv : vld N = true) (W V : Int → α) (h : ∀ l, litOk l N.n = true → W l = V l) : (R.wit W).sum N = (R.wit V).sum N :=
 Rv.sum (r := Eq) ⟨rfl, rfl, fun a b c d h1 h2 => by rw [h1, h2]; rfl, fun a b c d h1 h2 => by rw [h1, h2]; rfl, h, fun v h1 h2 => by
  obtain ⟨h3, h4⟩ := litOk_pos' h1 h2 (vld_bounds hv).2.1;show R.add _ _ = R.add _ _
  rw [h _ h3, h _ h4]⟩ hv
end
end Cs
end
