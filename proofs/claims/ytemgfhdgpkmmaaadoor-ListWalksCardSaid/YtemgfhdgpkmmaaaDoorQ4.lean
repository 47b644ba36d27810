/- Plain facts: the variables in which a later model can differ first; the first model that does not come before a set. -/
import Derived.Test.YtemgfhdgpkmmaaaDoorQ3
set_option linter.unusedSimpArgs false
set_option linter.unusedVariables false
section
open Go Go.RowKit Cs
namespace Cs
/-- The variables that can be the first ones in which a model differs, and the farthest one. -/
structure Tn where
  set : Nat
  far : Nat
def upToN (s v : Nat) : Nat := s &&& allTo ((min v 128 : Nat) : Int)
theorem upToN_bit (s v i : Nat) : (upToN s v).testBit i = (s.testBit i && decide (i < min v 128)) := by
  unfold upToN
  rw [Nat.testBit_and, allTo_bit]
  congr 1
  exact decide_eq_decide.2 (by omega)
def tnWide (a : Nat) (t : Tn) (all some : Nat) : Nat := t.set ||| upToN (minus (minus all some) a) t.far
/-- The two smallest distances. -/
def low2 (p : Nat × Nat) (f : Nat) : Nat × Nat := if f < p.1 then (f, p.1) else (p.1, min p.2 f)
def lows (F : List Nat) : Nat × Nat := F.foldl low2 (129, 129)
def othr (p : Nat × Nat) (f : Nat) : Nat := if f = p.1 then p.2 else p.1
theorem lows_spec : ∀ (F : List Nat), (∀ f ∈ F, f ≤ 129) →
    (lows F).1 ≤ 129 ∧ (lows F).1 ≤ (lows F).2 ∧ (∀ j (h : j < F.length), (lows F).1 ≤ F[j]) ∧ ((lows F).1 = 129 ∨ ∃ j, ∃ h : j < F.length, F[j] = (lows F).1) ∧
    (∀ k (hk : k < F.length), (∀ j (hj : j < F.length), j ≠ k → othr (lows F) F[k] ≤ F[j]) ∧ (othr (lows F) F[k] = 129 ∨ ∃ j, ∃ hj : j < F.length, j ≠ k ∧ F[j] = othr (lows F) F[k])) := by
  intro F
  generalize hR : F.reverse = R
  induction R generalizing F with
  | nil =>
    obtain rfl : F = [] := by simpa using hR
    intro _
    exact ⟨Nat.le_refl _, Nat.le_refl _, fun j h => by simp at h, .inl rfl, fun k hk => by simp at hk⟩
  | cons f R ih =>
    intro hF
    obtain ⟨P, rfl⟩ : ∃ P, F = P ++ [f] := ⟨R.reverse, by rw [← List.reverse_reverse F, hR]; simp⟩
    have hRP : P.reverse = R := by simpa using hR
    obtain ⟨h1, h2, h3, h4, h5⟩ := ih P hRP (fun x hx => hF x (by simp [hx]))
    have hf : f ≤ 129 := hF f (by simp)
    have e : lows (P ++ [f]) = low2 (lows P) f := by unfold lows; rw [List.foldl_append]; rfl
    rw [e]
    obtain ⟨p, hp⟩ : ∃ p, lows P = p := ⟨_, rfl⟩
    rw [hp] at h1 h2 h3 h4 h5 ⊢
    have hget : ∀ j (hj : j < P.length) (hj' : j < (P ++ [f]).length), (P ++ [f])[j] = P[j] := fun j hj hj' => List.getElem_append_left hj
    have hlast : ∀ (hj' : P.length < (P ++ [f]).length), (P ++ [f])[P.length] = f := fun hj' => by simp
    have hcase : ∀ j, j < (P ++ [f]).length → j < P.length ∨ j = P.length := fun j hj => by simp at hj; omega
    unfold low2
    by_cases hlt : f < p.1
    · rw [if_pos hlt]
      refine ⟨hf, by show f ≤ p.1; omega, fun j hj => ?_, .inr ⟨P.length, by simp, hlast _⟩, fun k hk => ⟨fun j hj hjk => ?_, ?_⟩⟩
      · rcases hcase j hj with h | rfl
        · rw [hget j h]; have := h3 j h; show f ≤ _; omega
        · rw [hlast]; exact Nat.le_refl _
      · rcases hcase k hk with hk' | rfl
        · have h6 := h3 k hk'
          have e1 : othr (f, p.1) ((P ++ [f])[k]) = f := by rw [hget k hk']; unfold othr; rw [if_neg (by show ¬ P[k] = f; omega)]
          rw [e1]
          rcases hcase j hj with h | rfl
          · rw [hget j h]; have := h3 j h; omega
          · rw [hlast]; exact Nat.le_refl _
        · have e1 : othr (f, p.1) ((P ++ [f])[P.length]) = p.1 := by rw [hlast]; unfold othr; rw [if_pos rfl]
          rw [e1]
          rcases hcase j hj with h | rfl
          · rw [hget j h]; exact h3 j h
          · exact absurd rfl hjk
      · rcases hcase k hk with hk' | rfl
        · have h6 := h3 k hk'
          have e1 : othr (f, p.1) ((P ++ [f])[k]) = f := by rw [hget k hk']; unfold othr; rw [if_neg (by show ¬ P[k] = f; omega)]
          rw [e1]
          exact .inr ⟨P.length, by simp, by omega, hlast _⟩
        · have e1 : othr (f, p.1) ((P ++ [f])[P.length]) = p.1 := by rw [hlast]; unfold othr; rw [if_pos rfl]
          rw [e1]
          rcases h4 with h | ⟨j, hj, h⟩
          · exact .inl h
          · exact .inr ⟨j, by simp; omega, by omega, by rw [hget j hj]; exact h⟩
    · rw [if_neg hlt]
      have hex : p.1 = 129 ∨ ∃ j, ∃ hj : j < (P ++ [f]).length, j ≠ P.length ∧ (P ++ [f])[j] = p.1 := by
        rcases h4 with h | ⟨j, hj, h⟩
        · exact .inl h
        · exact .inr ⟨j, by simp; omega, by omega, by rw [hget j hj]; exact h⟩
      refine ⟨h1, by show p.1 ≤ min p.2 f; omega, fun j hj => ?_, ?_, fun k hk => ⟨fun j hj hjk => ?_, ?_⟩⟩
      · rcases hcase j hj with h | rfl
        · rw [hget j h]; exact h3 j h
        · rw [hlast]; show p.1 ≤ f; omega
      · rcases hex with h | ⟨j, hj, _, h⟩
        · exact .inl h
        · exact .inr ⟨j, hj, h⟩
      · rcases hcase k hk with hk' | rfl
        · rw [hget k hk']
          obtain ⟨h6, _⟩ := h5 k hk'
          unfold othr at h6 ⊢
          by_cases he : P[k] = p.1
          · rw [if_pos he]
            rw [if_pos he] at h6
            rcases hcase j hj with h | rfl
            · rw [hget j h]; have := h6 j h hjk; show min p.2 f ≤ _; omega
            · rw [hlast]; show min p.2 f ≤ f; omega
          · rw [if_neg he]
            rcases hcase j hj with h | rfl
            · rw [hget j h]; exact h3 j h
            · rw [hlast]; show p.1 ≤ f; omega
        · rcases hcase j hj with h | rfl
          · rw [hlast, hget j h]
            have := h3 j h
            unfold othr
            by_cases he : f = p.1
            · rw [if_pos he]; show min p.2 f ≤ _; omega
            · rw [if_neg he]; exact this
          · exact absurd rfl hjk
      · rcases hcase k hk with hk' | rfl
        · rw [hget k hk']
          obtain ⟨_, h6⟩ := h5 k hk'
          unfold othr at h6 ⊢
          by_cases he : P[k] = p.1
          · rw [if_pos he]
            rw [if_pos he] at h6
            show min p.2 f = 129 ∨ ∃ j, ∃ hj : j < (P ++ [f]).length, j ≠ k ∧ (P ++ [f])[j] = min p.2 f
            by_cases hm : p.2 ≤ f
            · rw [Nat.min_eq_left hm]
              rcases h6 with h | ⟨j, hj, hjk, h⟩
              · exact .inl h
              · exact .inr ⟨j, by simp; omega, hjk, by rw [hget j hj]; exact h⟩
            · rw [Nat.min_eq_right (by omega)]
              exact .inr ⟨P.length, by simp, by omega, hlast _⟩
          · rw [if_neg he]
            rw [if_neg he] at h6
            rcases h6 with h | ⟨j, hj, hjk, h⟩
            · exact .inl h
            · exact .inr ⟨j, by simp; omega, hjk, by rw [hget j hj]; exact h⟩
        · rw [hlast]
          unfold othr
          by_cases he : f = p.1
          · rw [if_pos he]
            have hm : min p.2 f = p.1 := by omega
            show min p.2 f = 129 ∨ ∃ j, ∃ hj : j < (P ++ [f]).length, j ≠ P.length ∧ (P ++ [f])[j] = min p.2 f
            rw [hm]; exact hex
          · rw [if_neg he]; exact hex
/-- What t tells of the sets with the property M, which hangs on the variables of U alone. -/
structure Trn (a U : Nat) (M : Nat → Prop) (t : Tn) : Prop where
  dep : ∀ s t, (∀ i, U.testBit i = true → s.testBit i = t.testBit i) → M s → M t
  le : t.far ≤ 129
  far1 : 0 < t.far → ∃ s, M s ∧ ∀ i, U.testBit i = true → i + 1 < t.far → s.testBit i = a.testBit i
  far2 : ∀ s, M s → ∀ w, w ≤ 129 → (∀ i, U.testBit i = true → i + 1 < w → s.testBit i = a.testBit i) → w ≤ t.far
  set : ∀ i, t.set.testBit i = true ↔ (U.testBit i = true ∧ a.testBit i = false ∧ ∃ s, M s ∧ s.testBit i = true ∧ ∀ j, U.testBit j = true → j < i → s.testBit j = a.testBit j)
section
variable {a U V : Nat} {M K : Nat → Prop} {t r : Tn}
theorem Trn.congr (h : Trn a U M t) {M' : Nat → Prop} (e : ∀ s, M s ↔ M' s) : Trn a U M' t :=
  ⟨fun s t hst hs => (e t).1 (h.dep s t hst ((e s).2 hs)), h.le, fun hf => let ⟨s, h1, h2⟩ := h.far1 hf; ⟨s, (e s).1 h1, h2⟩, fun s hs => h.far2 s ((e s).2 hs), fun i => by
    rw [h.set i]
    exact ⟨fun ⟨h1, h2, s, h3, h4⟩ => ⟨h1, h2, s, (e s).1 h3, h4⟩, fun ⟨h1, h2, s, h3, h4⟩ => ⟨h1, h2, s, (e s).2 h3, h4⟩⟩⟩
theorem Trn.pos (h : Trn a U M t) {s : Nat} (hs : M s) : 0 < t.far := h.far2 s hs 1 (by omega) fun i _ hi => absurd hi (by omega)
theorem Trn.no (a U : Nat) : Trn a U (fun _ => False) ⟨0, 0⟩ :=
  ⟨fun _ _ _ h => h, Nat.zero_le _, fun h => absurd h (by decide), fun _ h => False.elim h, fun i => by simp⟩
theorem Trn.yes (a : Nat) : Trn a 0 (fun _ => True) ⟨0, 129⟩ :=
  ⟨fun _ _ _ h => h, Nat.le_refl _, fun _ => ⟨0, trivial, fun i hi => by simp at hi⟩, fun _ _ w hw _ => hw, fun i => by simp⟩
theorem Trn.or (h : Trn a U M t) (k : Trn a U K r) : Trn a U (fun s => M s ∨ K s) (if 0 < r.far then ⟨t.set ||| r.set, max t.far r.far⟩ else t) := by
  have hdep : ∀ s t, (∀ i, U.testBit i = true → s.testBit i = t.testBit i) → (M s ∨ K s) → (M t ∨ K t) := fun s t hst hs => hs.imp (h.dep s t hst) (k.dep s t hst)
  by_cases hr : 0 < r.far
  · rw [if_pos hr]
    refine ⟨hdep, by have := h.le; have := k.le; show max t.far r.far ≤ 129; omega, fun hf => ?_, fun s hs w hw hag => ?_, fun i => ?_⟩
    · show ∃ s, (M s ∨ K s) ∧ ∀ i, U.testBit i = true → i + 1 < max t.far r.far → s.testBit i = a.testBit i
      by_cases hm : t.far ≤ r.far
      · obtain ⟨s, h1, h2⟩ := k.far1 hr
        exact ⟨s, .inr h1, fun i hi hl => h2 i hi (by omega)⟩
      · obtain ⟨s, h1, h2⟩ := h.far1 (by omega)
        exact ⟨s, .inl h1, fun i hi hl => h2 i hi (by omega)⟩
    · show w ≤ max t.far r.far
      rcases hs with hs | hs
      · have := h.far2 s hs w hw hag; omega
      · have := k.far2 s hs w hw hag; omega
    · show (t.set ||| r.set).testBit i = true ↔ _
      rw [Nat.testBit_or, Bool.or_eq_true, h.set i, k.set i]
      constructor
      · rintro (⟨h1, h2, s, h3, h4⟩ | ⟨h1, h2, s, h3, h4⟩)
        · exact ⟨h1, h2, s, .inl h3, h4⟩
        · exact ⟨h1, h2, s, .inr h3, h4⟩
      · rintro ⟨h1, h2, s, h3 | h3, h4⟩
        · exact .inl ⟨h1, h2, s, h3, h4⟩
        · exact .inr ⟨h1, h2, s, h3, h4⟩
  · rw [if_neg hr]
    exact h.congr fun s => ⟨.inl, fun hs => hs.elim id fun hs => absurd (k.pos hs) hr⟩
/-- With the variables that it lacks. -/
theorem Trn.wide (h : Trn a U M t) (hUV : ∀ i, U.testBit i = true → V.testBit i = true) (hV : ∀ i, V.testBit i = true → i < 128) : Trn a V M ⟨tnWide a t V U, t.far⟩ := by
  have hmix : ∀ s i, ((s &&& U) ||| minus a U).testBit i = if U.testBit i then s.testBit i else a.testBit i := fun s i => by
    rw [Nat.testBit_or, Nat.testBit_and, minus_bit]
    cases U.testBit i <;> simp
  refine ⟨fun s t hst hs => h.dep s t (fun i hi => hst i (hUV i hi)) hs, h.le, fun hf => ?_, fun s hs w hw hag => h.far2 s hs w hw fun i hi hl => hag i (hUV i hi) hl, fun i => ?_⟩
  · obtain ⟨s, h1, h2⟩ := h.far1 hf
    refine ⟨(s &&& U) ||| minus a U, h.dep s _ (fun i hi => by rw [hmix, if_pos hi]) h1, fun i hi hl => ?_⟩
    rw [hmix]
    split
    · rename_i hu; exact h2 i hu hl
    · rfl
  · show (tnWide a t V U).testBit i = true ↔ _
    unfold tnWide
    rw [Nat.testBit_or, Bool.or_eq_true, h.set i, upToN_bit, Bool.and_eq_true, decide_eq_true_iff, minus_bit, minus_bit]
    constructor
    · rintro (⟨h1, h2, s, h3, h4, h5⟩ | ⟨h1, h2⟩)
      · refine ⟨hUV i h1, h2, (s &&& U) ||| minus a U, h.dep s _ (fun i hi => by rw [hmix, if_pos hi]) h3, by rw [hmix, if_pos h1]; exact h4, fun j hj hji => ?_⟩
        rw [hmix]
        split
        · rename_i hu; exact h5 j hu hji
        · rfl
      · rw [Bool.and_eq_true, Bool.and_eq_true, Bool.not_eq_true', Bool.not_eq_true'] at h1
        obtain ⟨⟨hvi, hui⟩, hai⟩ := h1
        obtain ⟨s, h3, h4⟩ := h.far1 (by omega)
        have hmix2 : ∀ j, ((s &&& U) ||| minus a U ||| 2 ^ i).testBit j = if U.testBit j then s.testBit j else (a.testBit j || decide (i = j)) := fun j => by
          rw [Nat.testBit_or, hmix, Nat.testBit_two_pow]
          split
          · rename_i hu
            have : ¬ i = j := fun e => by rw [e] at hui; rw [hui] at hu; cases hu
            rw [decide_eq_false this, Bool.or_false]
          · rfl
        refine ⟨hvi, hai, (s &&& U) ||| minus a U ||| 2 ^ i, h.dep s _ (fun j hj => by rw [hmix2, if_pos hj]) h3, by rw [hmix2, hui]; simp, fun j hj hji => ?_⟩
        rw [hmix2]
        split
        · rename_i hu; exact h4 j hu (by omega)
        · rw [decide_eq_false (by omega), Bool.or_false]
    · rintro ⟨h1, h2, s, h3, h4, h5⟩
      cases hu : U.testBit i
      · right
        refine ⟨by rw [h1, h2]; rfl, ?_⟩
        have h6 := hV i h1
        have h7 := h.far2 s h3 (i + 2) (by omega) fun j hj hl => by
          rcases Nat.lt_or_ge j i with h8 | h8
          · exact h5 j (hUV j hj) h8
          · have : j = i := by omega
            subst this
            rw [hu] at hj; cases hj
        omega
      · exact .inl ⟨rfl, h2, s, h3, h4, fun j hj hji => h5 j (hUV j hj) hji⟩
end
/-- Sets for disjoint parts are parts of one. -/
theorem combine (O S : Nat → Nat) : ∀ n, (∀ i j, i < n → j < n → i ≠ j → O i &&& O j = 0) → ∃ s : Nat, ∀ i, i < n → ∀ b, (O i).testBit b = true → s.testBit b = (S i).testBit b
  | 0, _ => ⟨0, fun i hi => absurd hi (by omega)⟩
  | n + 1, h => by
    obtain ⟨s, hs⟩ := combine O S n fun i j hi hj => h i j (by omega) (by omega)
    refine ⟨minus s (O n) ||| (S n &&& O n), fun i hi b hb => ?_⟩
    rw [Nat.testBit_or, minus_bit, Nat.testBit_and]
    rcases Nat.lt_or_ge i n with h1 | h1
    · have h2 : (O n).testBit b = false := by
        cases h3 : (O n).testBit b
        · rfl
        · exact (and_zero_no (h i n (by omega) (by omega) (by omega)) hb h3).elim
      rw [h2, hs i h1 b hb]; simp
    · have : i = n := by omega
      subst this
      rw [hb]; simp
/-- Of parts that hang on different variables. -/
theorem Trn.all {a n : Nat} (O : Nat → Nat) (M : Nat → Nat → Prop) (T : Nat → Tn) (F : List Nat) (hF : F.length = n) (hFT : ∀ i (h : i < F.length), F[i] = (T i).far) (hO : ∀ i, i < n → ∀ b, (O i).testBit b = true → b < 128) (U R : Nat)
    (hd : ∀ i j, i < n → j < n → i ≠ j → O i &&& O j = 0) (hT : ∀ i, i < n → Trn a (O i) (M i) (T i)) (hU : ∀ b, U.testBit b = true ↔ ∃ i, i < n ∧ (O i).testBit b = true)
    (hR : ∀ b, R.testBit b = true ↔ ∃ i, i < n ∧ (upToN (T i).set (othr (lows F) (T i).far)).testBit b = true) :
    Trn a U (fun s => ∀ i, i < n → M i s) ⟨R, (lows F).1⟩ := by
  obtain ⟨l1, l2, l3, l4, l5⟩ := lows_spec F fun f hf => by
    obtain ⟨i, hi, rfl⟩ := List.getElem_of_mem hf
    rw [hFT]; exact (hT i (by omega)).le
  refine ⟨fun s t hst hs i hi => (hT i hi).dep s t (fun b hb => hst b ((hU b).2 ⟨i, hi, hb⟩)) (hs i hi), l1, fun hf => ?_, fun s hs w hw hag => ?_, fun b => ?_⟩
  · have hex : ∀ i, ∃ s, i < n → (M i s ∧ ∀ b, (O i).testBit b = true → b + 1 < (T i).far → s.testBit b = a.testBit b) := fun i => by
      by_cases hi : i < n
      · have h1 := l3 i (by omega)
        rw [hFT] at h1
        obtain ⟨s, h2⟩ := (hT i hi).far1 (by show 0 < (T i).far; have : 0 < (lows F).1 := hf; omega)
        exact ⟨s, fun _ => h2⟩
      · exact ⟨0, fun h => absurd h hi⟩
    obtain ⟨S, hS⟩ := Classical.axiomOfChoice hex
    obtain ⟨s, hs⟩ := combine O S n hd
    refine ⟨s, fun i hi => (hT i hi).dep (S i) s (fun b hb => (hs i hi b hb).symm) (hS i hi).1, fun b hb hl => ?_⟩
    obtain ⟨i, hi, hbi⟩ := (hU b).1 hb
    have h1 := l3 i (by omega)
    rw [hFT] at h1
    rw [hs i hi b hbi]
    exact (hS i hi).2 b hbi (by have : b + 1 < (lows F).1 := hl; omega)
  · show w ≤ (lows F).1
    rcases l4 with h | ⟨j, hj, h⟩
    · omega
    · rw [← h, hFT]
      exact (hT j (by omega)).far2 s (hs j (by omega)) w hw fun b hb hl => hag b ((hU b).2 ⟨j, by omega, hb⟩) hl
  · show R.testBit b = true ↔ _
    rw [hR]
    constructor
    · rintro ⟨k, hk, hb⟩
      rw [upToN_bit, Bool.and_eq_true, decide_eq_true_iff] at hb
      obtain ⟨hb1, hb2⟩ := hb
      obtain ⟨h1, h2, sk, h3, h4, h5⟩ := ((hT k hk).set b).1 hb1
      have h6 := (l5 k (by omega)).1
      rw [hFT k (by omega)] at h6
      have hex : ∀ i, ∃ s, i < n → (M i s ∧ (i = k → s = sk) ∧ (i ≠ k → ∀ c, (O i).testBit c = true → c + 1 < (T i).far → s.testBit c = a.testBit c)) := fun i => by
        by_cases hi : i < n
        · by_cases hik : i = k
          · subst hik; exact ⟨sk, fun _ => ⟨h3, fun _ => rfl, fun h => absurd rfl h⟩⟩
          · have h7 := h6 i (by omega) hik
            rw [hFT] at h7
            obtain ⟨s, h8⟩ := (hT i hi).far1 (by omega)
            exact ⟨s, fun _ => ⟨h8.1, fun h => absurd h hik, fun _ => h8.2⟩⟩
        · exact ⟨0, fun h => absurd h hi⟩
      obtain ⟨S, hS⟩ := Classical.axiomOfChoice hex
      obtain ⟨s, hs⟩ := combine O S n hd
      refine ⟨(hU b).2 ⟨k, hk, h1⟩, h2, s, fun i hi => (hT i hi).dep (S i) s (fun c hc => (hs i hi c hc).symm) (hS i hi).1, ?_, fun c hc hcb => ?_⟩
      · rw [hs k hk b h1, (hS k hk).2.1 rfl]; exact h4
      · obtain ⟨i, hi, hci⟩ := (hU c).1 hc
        rw [hs i hi c hci]
        by_cases hik : i = k
        · subst hik
          rw [(hS i hi).2.1 rfl]; exact h5 c hci hcb
        · have h7 := h6 i (by omega) hik
          rw [hFT] at h7
          exact (hS i hi).2.2 hik c hci (by omega)
    · rintro ⟨h1, h2, s, h3, h4, h5⟩
      obtain ⟨k, hk, hbk⟩ := (hU b).1 h1
      refine ⟨k, hk, ?_⟩
      rw [upToN_bit, Bool.and_eq_true, decide_eq_true_iff]
      refine ⟨((hT k hk).set b).2 ⟨hbk, h2, s, h3 k hk, h4, fun c hc hcb => h5 c ((hU c).2 ⟨k, hk, hc⟩) hcb⟩, ?_⟩
      have hb128 := hO k hk b hbk
      have h6 := (l5 k (by omega)).2
      rw [hFT k (by omega)] at h6
      rcases h6 with h6 | ⟨j, hj, hjk, h6⟩
      · omega
      · rw [hFT] at h6
        have h7 := (hT j (by omega)).far2 s (h3 j (by omega)) (b + 2) (by omega) fun c hc hl => by
          rcases Nat.lt_or_ge c b with h8 | h8
          · exact h5 c ((hU c).2 ⟨j, by omega, hc⟩) h8
          · have : c = b := by omega
            subst this
            exact (and_zero_no (hd j k (by omega) hk hjk) hc hbk).elim
        omega
end Cs
end
