/- Polynomials as lists of coefficients. The walks of count.plus and count.times. -/
import Derived.Test.YtcgejdlfiemjaaaDoorC1
import Derived.Lib.MinMax
set_option linter.unusedSimpArgs false
set_option linter.unusedVariables false
/-! Polynomials as lists of coefficients. -/
section
open Go Go.RowKit Cs
namespace Cs
def addP (a b : List Nat) : List Nat := (List.range (max a.length b.length)).map fun i => a.getD i 0 + b.getD i 0
/-- The coefficients of a product while they are made: those of i' < i, and for i those of k' < k. -/
def cvI (a b : List Nat) (i : Nat) (f : Nat → Nat) : Nat → (Nat → Nat)
  | 0 => f
  | k + 1 => fun t => cvI a b i f k t + if t = i + k then a.getD i 0 * b.getD k 0 else 0
def cvO (a b : List Nat) : Nat → (Nat → Nat)
  | 0 => fun _ => 0
  | i + 1 => cvI a b i (cvO a b i) b.length
def mulP (a b : List Nat) : List Nat := if a.length = 0 ∨ b.length = 0 then [] else (List.range (a.length + b.length - 1)).map fun t => cvO a b a.length t
theorem addP_len (a b : List Nat) : (addP a b).length = max a.length b.length := by unfold addP; simp
theorem mulP_len (a b : List Nat) (ha : a.length ≠ 0) (hb : b.length ≠ 0) : (mulP a b).length = a.length + b.length - 1 := by
  unfold mulP; rw [if_neg (by omega)]; simp
theorem getD_map_range (n : Nat) (f : Nat → Nat) (i : Nat) : ((List.range n).map f).getD i 0 = if i < n then f i else 0 := by
  rw [List.getD_eq_getElem?_getD]
  by_cases h : i < n
  · rw [if_pos h, List.getElem?_map, List.getElem?_range h]; rfl
  · rw [if_neg h, List.getElem?_eq_none (by simp; omega)]; rfl
theorem getD_ge (a : List Nat) (i : Nat) (h : a.length ≤ i) : a.getD i 0 = 0 := by
  rw [List.getD_eq_getElem?_getD, List.getElem?_eq_none h]; rfl
theorem addP_get (a b : List Nat) (i : Nat) : (addP a b).getD i 0 = a.getD i 0 + b.getD i 0 := by
  unfold addP
  rw [getD_map_range]
  split
  · rfl
  · rw [getD_ge a i (by omega), getD_ge b i (by omega)]
theorem cvI_ge (a b : List Nat) (i : Nat) (f : Nat → Nat) (t : Nat) (hf : f t = 0) : ∀ k, i + k ≤ t → cvI a b i f k t = 0
  | 0, _ => hf
  | k + 1, h => by
    show cvI a b i f k t + (if t = i + k then _ else 0) = 0
    rw [cvI_ge a b i f t hf k (by omega), if_neg (by omega)]
theorem cvO_ge (a b : List Nat) (t : Nat) : ∀ i, i + b.length ≤ t + 1 → cvO a b i t = 0
  | 0, _ => rfl
  | i + 1, h => by
    show cvI a b i (cvO a b i) b.length t = 0
    exact cvI_ge a b i _ t (cvO_ge a b t i (by omega)) b.length (by omega)
theorem cvO_nil (a b : List Nat) (hb : b.length = 0) (t : Nat) : ∀ i, cvO a b i t = 0
  | 0 => rfl
  | i + 1 => by show cvI a b i (cvO a b i) b.length t = 0; rw [hb]; exact cvO_nil a b hb t i
theorem mulP_get (a b : List Nat) (t : Nat) : (mulP a b).getD t 0 = cvO a b a.length t := by
  unfold mulP
  split
  · rename_i h
    rcases h with h | h
    · rw [h]; rfl
    · rw [cvO_nil a b h t]; rfl
  · rw [getD_map_range]
    split
    · rfl
    · rw [cvO_ge a b t a.length (by omega)]

/-- The value at one. -/
def ev (a : List Nat) : Nat := a.foldr (· + ·) 0
/-- The sum of the first n values. -/
def sm (f : Nat → Nat) : Nat → Nat
  | 0 => 0
  | n + 1 => sm f n + f n
theorem sm_add (f g : Nat → Nat) : ∀ n, sm (fun i => f i + g i) n = sm f n + sm g n
  | 0 => rfl
  | n + 1 => by show sm _ n + (f n + g n) = (sm f n + f n) + (sm g n + g n); rw [sm_add f g n]; omega
theorem sm_zero (f : Nat → Nat) : ∀ n, (∀ i, i < n → f i = 0) → sm f n = 0
  | 0, _ => rfl
  | n + 1, h => by show sm f n + f n = 0; rw [sm_zero f n fun i hi => h i (by omega), h n (by omega)]
theorem sm_congr (f g : Nat → Nat) : ∀ n, (∀ i, i < n → f i = g i) → sm f n = sm g n
  | 0, _ => rfl
  | n + 1, h => by show sm f n + f n = sm g n + g n; rw [sm_congr f g n fun i hi => h i (by omega), h n (by omega)]
theorem sm_more (f : Nat → Nat) (n : Nat) : ∀ m, n ≤ m → (∀ i, n ≤ i → i < m → f i = 0) → sm f m = sm f n
  | 0, h, _ => by have : n = 0 := by omega
                  rw [this]
  | m + 1, h, hz => by
    by_cases h1 : n = m + 1
    · rw [h1]
    · show sm f m + f m = sm f n
      rw [sm_more f n m (by omega) fun i h2 h3 => hz i h2 (by omega), hz m (by omega) (by omega)]; omega
theorem sm_le (f : Nat → Nat) : ∀ n i, i < n → f i ≤ sm f n
  | n + 1, i, h => by
    show f i ≤ sm f n + f n
    by_cases h1 : i = n
    · subst h1; omega
    · have := sm_le f n i (by omega); omega
theorem sm_mono (f : Nat → Nat) {n m : Nat} (h : n ≤ m) : sm f n ≤ sm f m := by
  induction m with
  | zero => rw [show n = 0 by omega]; exact Nat.le_refl _
  | succ m ih =>
    by_cases h1 : n = m + 1
    · rw [h1]; exact Nat.le_refl _
    · have := ih (by omega)
      show sm f n ≤ sm f m + f m
      omega
theorem sm_one (c t n : Nat) (h : t < n) : sm (fun i => if i = t then c else 0) n = c := by
  induction n with
  | zero => omega
  | succ n ih =>
    show sm _ n + (if n = t then c else 0) = c
    by_cases h1 : n = t
    · subst h1
      rw [if_pos rfl, sm_zero _ n fun i hi => if_neg (by omega)]; omega
    · rw [if_neg h1, ih (by omega)]; rfl
theorem sm_append (a : List Nat) (x : Nat) : ev (a ++ [x]) = ev a + x := by
  unfold ev; rw [List.foldr_append]
  induction a with
  | nil => simp
  | cons y ys ih => simp only [List.foldr_cons] at ih ⊢; rw [ih]; omega
theorem ev_range (f : Nat → Nat) : ∀ n, ev ((List.range n).map f) = sm f n
  | 0 => rfl
  | n + 1 => by rw [List.range_succ, List.map_append]; show ev (_ ++ [f n]) = _; rw [sm_append, ev_range f n]; rfl
theorem ev_sm (a : List Nat) : ev a = sm (fun i => a.getD i 0) a.length := by
  conv => lhs; rw [show a = (List.range a.length).map (fun i => a.getD i 0) from List.ext_getElem (by simp) fun i h1 h2 => by simp [List.getD, h1]]
  rw [ev_range]
theorem ev_le (a : List Nat) (i : Nat) : a.getD i 0 ≤ ev a := by
  by_cases h : i < a.length
  · rw [ev_sm]; exact sm_le (fun i => a.getD i 0) _ _ h
  · rw [getD_ge a i (by omega)]; omega
theorem ev_addP (a b : List Nat) : ev (addP a b) = ev a + ev b := by
  rw [ev_sm a, ev_sm b]
  unfold addP
  rw [ev_range, sm_add]
  congr 1
  · exact sm_more _ _ _ (by omega) fun i h1 _ => getD_ge a i h1
  · exact sm_more _ _ _ (by omega) fun i h1 _ => getD_ge b i h1
theorem sm_cvI (a b : List Nat) (i : Nat) (f : Nat → Nat) (n : Nat) : ∀ k, i + k ≤ n → sm (cvI a b i f k) n = sm f n + a.getD i 0 * sm (fun j => b.getD j 0) k
  | 0, _ => by show sm f n = sm f n + a.getD i 0 * 0; omega
  | k + 1, h => by
    show sm (fun t => cvI a b i f k t + if t = i + k then a.getD i 0 * b.getD k 0 else 0) n = sm f n + a.getD i 0 * (sm (fun j => b.getD j 0) k + b.getD k 0)
    rw [sm_add (cvI a b i f k), sm_cvI a b i f n k (by omega), sm_one _ (i + k) n (by omega), Nat.mul_add]; omega
theorem sm_cvO (a b : List Nat) (n : Nat) : ∀ i, i + b.length ≤ n + 1 → sm (cvO a b i) n = sm (fun j => a.getD j 0) i * ev b
  | 0, _ => by show sm (fun _ => 0) n = 0 * _; rw [sm_zero _ _ fun _ _ => rfl]; omega
  | i + 1, h => by
    show sm (cvI a b i (cvO a b i) b.length) n = (sm (fun j => a.getD j 0) i + a.getD i 0) * ev b
    rw [sm_cvI a b i _ n b.length (by omega), sm_cvO a b n i (by omega), ← ev_sm, Nat.add_mul]
theorem ev_mulP (a b : List Nat) : ev (mulP a b) = ev a * ev b := by
  unfold mulP
  split
  · rename_i h
    rcases h with h | h
    · rw [ev_sm a, h]; simp [sm, ev]
    · rw [ev_sm b, h]; simp [sm, ev]
  · rename_i h
    rw [ev_range, sm_cvO a b _ a.length (by omega), ← ev_sm]
/-- Every coefficient on the way is at most the product of the values at one. -/
theorem cvI_le (a b : List Nat) (i k t : Nat) (hi : i < a.length) (hk : k ≤ b.length) : cvI a b i (cvO a b i) k t ≤ ev a * ev b := by
  have h1 : cvI a b i (cvO a b i) k t ≤ sm (cvI a b i (cvO a b i) k) (t + 1 + i + b.length) := sm_le _ _ _ (by omega)
  refine Nat.le_trans h1 ?_
  rw [sm_cvI a b i _ _ k (by omega), sm_cvO a b _ i (by omega)]
  have h2 : sm (fun j => b.getD j 0) k ≤ ev b := by
    rw [ev_sm]; exact sm_mono _ hk
  have h3 : sm (fun j => a.getD j 0) (i + 1) ≤ ev a := by
    rw [ev_sm]; exact sm_mono _ hi
  have h4 : sm (fun j => a.getD j 0) (i + 1) = sm (fun j => a.getD j 0) i + a.getD i 0 := rfl
  rw [h4] at h3
  calc sm (fun j => a.getD j 0) i * ev b + a.getD i 0 * sm (fun j => b.getD j 0) k ≤ sm (fun j => a.getD j 0) i * ev b + a.getD i 0 * ev b := Nat.add_le_add_left (Nat.mul_le_mul_left _ h2) _
    _ = (sm (fun j => a.getD j 0) i + a.getD i 0) * ev b := by rw [Nat.add_mul]
    _ ≤ ev a * ev b := Nat.mul_le_mul_right _ h3
/-- The ring of the numbers by cardinality. -/
def RC : Rg (List Nat) := ⟨[], [1], addP, mulP, fun l => if l < 0 then [1] else [0, 1], fun _ => [1, 1]⟩
theorem RC_R1 : Rl RC R1 (fun p v => ev p = v) where
  zero := rfl
  one := rfl
  add := fun a b c d h1 h2 => by show ev (addP a c) = b + d; rw [ev_addP, h1, h2]
  mul := fun a b c d h1 h2 => by show ev (mulP a c) = b * d; rw [ev_mulP, h1, h2]
  lit := fun l => by show ev (if l < 0 then [1] else [0, 1]) = 1; split <;> rfl
  both := fun _ => rfl
end Cs
end
/-! The walks of count.plus and count.times. -/
section
open Go Go.RowKit Cs
namespace Go.Proofs.YtcgejdlfiemjaaaDoor
set_option maxRecDepth 100000 in
set_option maxHeartbeats 2000000 in
theorem plus_any (w : World) (A B : Option Addr) (ca cb : Nat) (a b : List Nat) (hla : a.length ≤ 100000) (hlb : b.length ≤ 100000) (hA : Rd w w.heap.size A a.length (natsF a)) (hB : Rd w w.heap.size B b.length (natsF b))
    (hev : ev a + ev b < big * 2 ^ 200) :
    Calls Tryd.prog 44 #[.slice A a.length ca, .slice B b.length cb] w fun e w' => ∃ g, e = .returned (.slice (some ⟨g, 0, none⟩) (addP a b).length (addP a b).length) ∧ w.heap.size ≤ g ∧ w'.rowIs g 28 (addP a b).length (natsF (addP a b)) ∧ Below w.heap.size w w' := by
  rw [addP_len]
  have HEV := Lib.hid hev; clear hev
  obtain ⟨n, hn⟩ : ∃ n, max a.length b.length = n := ⟨_, rfl⟩
  have hmk := mk_nat n (by omega)
  have hmx : max (a.length : Int) (b.length : Int) = (n : Int) := by omega
  rw [hn]
  have HN := Lib.hid hn
  have HA := Lib.hid hA
  have HB := Lib.hid hB
  clear hn hA hB
  go_enter Tryd.func44, Tryd.ntmps44
  have hrow0 : (w.alloc (.cells (madeCells #[.string ⟨#[]⟩] n) 28)).rowIs w.heap.size 28 n (natsF []) := natsMade w n _ _ rfl
  have hn1 : a.length ≤ n := by have := HN.out; omega
  have hn2 : b.length ≤ n := by have := HN.out; omega
  have HR0 := Lib.hid hrow0
  clear hrow0
  go_wp2_with ((with_reducible refine wpList_copy_row rfl (.tmp 14) (.tmp 15) 35 35 rfl 28 Tryd.underlying35 size_nat w.heap.size n n a.length ca A rfl rfl 28 n _ HR0.out (by omega) hn1 (natsF a) ?c1 ?c2 ?_); rotate_left; rotate_left; intro w3 hr3 hg3)
  case c1 =>
    intro h0
    obtain ⟨b', o', hA', _, hc⟩ := HA.out.alloc (Nat.le_refl _) (.cells (madeCells #[.string ⟨#[]⟩] n) 28) h0
    exact ⟨b', o', hA', hc⟩
  case c2 => exact fun _ _ => rfl
  have hbl3 : Below w.heap.size w w3 := ((Below.refl _ _).alloc (Nat.le_refl _) _).grown hg3 (by simp) (fun k e => by cases e; omega)
  have hr4 := hr3.congr (g := fun i => .string (natB (a.getD i 0 + if i < 0 then b.getD i 0 else 0))) fun i _ => by
    rw [if_neg (Nat.not_lt_zero i), Nat.add_zero]
    split
    · rfl
    · rename_i h
      unfold natsF; rw [getD_ge a i (by omega)]; rfl
  clear hr3 hg3 HR0
  go_loopw [19] (fun t wr => ∃ k : Nat, k ≤ b.length ∧ t = .int .i64 k ∧ wr.rowIs w.heap.size 28 n (fun i => .string (natB (a.getD i 0 + if i < k then b.getD i 0 else 0))) ∧ Below w.heap.size w wr) (fun t _ => b.length - (intOf t).toNat)
  case atStart => exact ⟨0, by omega, rfl, hr4, hbl3⟩
  case round =>
    clear hr4 hbl3
    obtain ⟨k, hk, rfl, hrow, hbl⟩ := hrel
    have hz := hrow.lt
    by_cases hlt : k < b.length
    · obtain ⟨b', o', rfl, hbB', hcs⟩ := HB.out (by omega)
      have hc := below_cell hbl hbB' (hcs k hlt)
      clear hcs
      unfold natsF at hc
      have hck := hrow.cell (i := k) (by omega)
      simp only [Nat.lt_irrefl, if_false, Nat.add_zero] at hck
      have hle1 := ev_le a k
      have hle2 := ev_le b k
      obtain ⟨x, hx⟩ : ∃ x, a.getD k 0 = x := ⟨_, rfl⟩
      obtain ⟨y, hy⟩ : ∃ y, b.getD k 0 = y := ⟨_, rfl⟩
      rw [hx] at hck hle1
      rw [hy] at hc hle2
      have hev := HEV.out
      have hq1 : n8 x ≤ 1000000 := Nat.le_trans (n8_big x (by omega)) (by decide)
      have hq2 : n8 y ≤ 1000000 := Nat.le_trans (n8_big y (by omega)) (by decide)
      have HX := Lib.hid hx
      have HY := Lib.hid hy
      have hi1 : (0 : Int) ≤ (k : Int) := by omega
      have hi2 : (k : Int) < (n : Int) := by omega
      clear hx hy hev hle1 hle2
      have hnx := boxNew wr (.string (natB y)) 28 _ rfl
      have hrow' := (hrow.alloc (.cells #[.string (natB y)] 28)).drew
      have hbl' := belowDrewN (hbl.alloc hbl.size (.cells #[.string (natB y)] 28)) 1
      change Below _ _ (World.drew _) at hbl'
      go_wp2_with fail
      go_region_law (
        go_simp
        go_at_call 21
        (with_reducible refine (add_any _ x y hq1 hq2).mono ?_)
        rintro e w8 ⟨rfl, hb8⟩
        have hrow8 := rowBelow hrow' hb8
        have hbl8 := Cs.Below.trans' hbl' hb8 hbl'.size
        have hs8 := hrow8.cell (i := k) (by omega)
        have hf8 := hrow8.frozen k)
      all_goals
        try go_wp2
        go_roundw
        case rel =>
          refine ⟨k + 1, by omega, by go_num, (hrow8.set k _).congr fun i _ => ?_, hbl8.setCell (by simp) _⟩
          split
          · subst i; rw [if_pos (by omega), HX.out, HY.out]
          · by_cases h : i < k
            · rw [if_pos h, if_pos (by omega)]
            · rw [if_neg h, if_neg (by omega)]
        case measure => simp [intOf]; omega
    · obtain rfl : k = b.length := by omega
      go_wp2
      go_ret
      refine ⟨w.heap.size, rfl, Nat.le_refl _, hrow.congr fun i _ => ?_, hbl⟩
      unfold natsF
      rw [addP_get]
      by_cases h : i < b.length
      · rw [if_pos h]
      · rw [if_neg h, getD_ge b i (by omega)]
end Go.Proofs.YtcgejdlfiemjaaaDoor
end
