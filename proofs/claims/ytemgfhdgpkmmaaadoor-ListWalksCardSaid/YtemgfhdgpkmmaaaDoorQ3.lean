/- Plain facts: the order of models, and the least model in which some variables are given. -/
import Derived.Test.YtemgfhdgpkmmaaaDoorQ2
set_option linter.unusedSimpArgs false
set_option linter.unusedVariables false
section
open Go Go.RowKit Cs
namespace Cs
/-! The order of sets: variable 1 counts most. -/
def key (s : Nat) : Nat := sN (fun i => if s.testBit i then 2 ^ (127 - i) else 0) 128
theorem key_or (s t : Nat) (h : s &&& t = 0) : key (s ||| t) = key s + key t := by
  unfold key
  rw [← sN_add]
  refine sN_congr _ _ _ fun i _ => ?_
  have hb : (s &&& t).testBit i = false := by rw [h]; exact Nat.zero_testBit i
  rw [Nat.testBit_and] at hb
  rw [Nat.testBit_or]
  cases h1 : s.testBit i <;> cases h2 : t.testBit i <;> simp_all
theorem key_mono (s t : Nat) (h : ∀ i, s.testBit i = true → t.testBit i = true) : key s ≤ key t := by
  unfold key
  refine sN_le _ _ _ fun i _ => ?_
  cases h1 : s.testBit i
  · simp
  · rw [h i h1]; exact Nat.le_refl _
/-- The tail of a key is small. -/
theorem key_tail (f : Nat → Bool) (m : Nat) : ∀ d, m + d ≤ 128 → sN (fun i => if f (m + i) then 2 ^ (127 - (m + i)) else 0) d + 2 ^ (128 - (m + d)) ≤ 2 ^ (128 - m)
  | 0, _ => by rw [sN_zero]; simp
  | d + 1, h => by
    have ih := key_tail f m d (by omega)
    rw [sN_succ]
    have e : 2 ^ (128 - (m + d)) = 2 ^ (127 - (m + d)) + 2 ^ (127 - (m + d)) := by rw [show 128 - (m + d) = (127 - (m + d)) + 1 by omega, Nat.pow_succ]; omega
    rw [show 128 - (m + (d + 1)) = 127 - (m + d) by omega]
    have hp := Nat.two_pow_pos (127 - (m + d))
    split <;> omega
theorem key_split (s m : Nat) (hm : m < 128) : key s = sN (fun i => if s.testBit i then 2 ^ (127 - i) else 0) m + (if s.testBit m then 2 ^ (127 - m) else 0) + sN (fun i => if s.testBit (m + 1 + i) then 2 ^ (127 - (m + 1 + i)) else 0) (127 - m) := by
  unfold key
  have h := sumTo_more CN (fun i => if s.testBit i then 2 ^ (127 - i) else 0) (m + 1) (127 - m)
  rw [show m + 1 + (127 - m) = 128 by omega] at h
  exact h
/-- The first difference decides. -/
theorem key_first {s t m : Nat} (hm : m < 128) (h : ∀ i, i < m → s.testBit i = t.testBit i) (hs : s.testBit m = false) (ht : t.testBit m = true) : key s < key t := by
  rw [key_split s m hm, key_split t m hm, hs, ht]
  have e : sN (fun i => if s.testBit i then 2 ^ (127 - i) else 0) m = sN (fun i => if t.testBit i then 2 ^ (127 - i) else 0) m := sN_congr _ _ _ fun i hi => by rw [h i hi]
  have h1 := key_tail s.testBit (m + 1) (127 - m) (by omega)
  rw [e]
  have h2 : 128 - (m + 1) = 127 - m := by omega
  rw [h2] at h1
  have h3 := Nat.two_pow_pos (128 - (m + 1 + (127 - m)))
  simp only [Bool.false_eq_true, if_false, if_true]
  omega
/-- The first difference of two sets. -/
theorem first_diff (s t : Nat) : ∀ m, (∀ i, i < m → s.testBit i = t.testBit i) ∨ ∃ i, i < m ∧ s.testBit i ≠ t.testBit i ∧ ∀ j, j < i → s.testBit j = t.testBit j
  | 0 => .inl fun i hi => absurd hi (by omega)
  | m + 1 => by
    rcases first_diff s t m with h | ⟨i, hi, h1, h2⟩
    · by_cases h1 : s.testBit m = t.testBit m
      · refine .inl fun i hi => ?_
        rcases Nat.lt_or_ge i m with h2 | h2
        · exact h i h2
        · rw [show i = m by omega]; exact h1
      · exact .inr ⟨m, by omega, h1, h⟩
    · exact .inr ⟨i, by omega, h1, h2⟩
theorem key_lt {s t : Nat} (hs : IsSet s) (ht : IsSet t) (h : key s < key t) : ∃ m, m < 128 ∧ (∀ i, i < m → s.testBit i = t.testBit i) ∧ s.testBit m = false ∧ t.testBit m = true := by
  rcases first_diff s t 128 with h1 | ⟨i, hi, h1, h2⟩
  · have := set_ext s t hs ht h1
    rw [this] at h; omega
  · cases h3 : s.testBit i <;> cases h4 : t.testBit i
    · rw [h3, h4] at h1; exact absurd rfl h1
    · exact ⟨i, hi, h2, h3, h4⟩
    · have := key_first hi (fun j hj => (h2 j hj).symm) h4 h3
      omega
    · rw [h3, h4] at h1; exact absurd rfl h1
theorem key_inj {s t : Nat} (hs : IsSet s) (ht : IsSet t) (h : key s = key t) : s = t := by
  rcases first_diff s t 128 with h1 | ⟨i, hi, h1, h2⟩
  · exact set_ext s t hs ht h1
  · cases h3 : s.testBit i <;> cases h4 : t.testBit i
    · rw [h3, h4] at h1; exact absurd rfl h1
    · have := key_first hi h2 h3 h4; omega
    · have := key_first hi (fun j hj => (h2 j hj).symm) h4 h3; omega
    · rw [h3, h4] at h1; exact absurd rfl h1
/-! The truth of a node hangs on its own variables alone. -/
theorem hld_same {s t : Nat} {l : Int} (h : ∀ i, (wth 0 (litVar l)).testBit i = true → s.testBit i = t.testBit i) : hld s l = hld t l := by
  unfold hld
  have hl := litVar_le l
  by_cases h0 : litVar l = 0
  · rw [h0]; rfl
  · rw [h ((litVar l).toNat - 1) (by rw [wth_bit]; exact decide_eq_true (by omega))]
theorem truth_own {N : Nt} (hv : vld N = true) (s t : Nat) : ∀ (m k : Nat), k < m → k < N.l.length → (∀ i, ((own N.l).getD k 0).testBit i = true → s.testBit i = t.testBit i) → (truth s N.l).getD k false = (truth t N.l).getD k false
  | m + 1, k, hkm, hk, h => by
    have hfm := vld_formed hv k hk
    unfold truth
    rw [scan_at _ _ _ k hk, scan_at _ _ _ k hk]
    show N.l[k].ins.foldl (evIn (scan (evStep s) [] (N.l.take k)) N.l[k]) (evStart s N.l[k]) = N.l[k].ins.foldl (evIn (scan (evStep t) [] (N.l.take k)) N.l[k]) (evStart t N.l[k])
    have e1 : evStart s N.l[k] = evStart t N.l[k] := by
      unfold evStart
      rw [hld_same fun i hi => h i (by rw [own_bit hv k hk i, hi]; rfl)]
    rw [e1]
    have e2 : ∀ j ∈ N.l[k].ins, (scan (evStep s) [] (N.l.take k)).getD j.toNat false = (scan (evStep t) [] (N.l.take k)).getD j.toNat false := fun j hj => by
      obtain ⟨q, rfl, hq⟩ := formed_mem hfm j hj
      rw [Int.toNat_natCast, scan_get _ _ _ k q (by omega) hq, scan_get _ _ _ k q (by omega) hq]
      exact truth_own hv s t m q (by omega) (by omega) fun i hi => h i (own_ins hv k hk (q : Int) hj i (by rw [Int.toNat_natCast]; exact hi))
    revert e2
    generalize evStart t N.l[k] = b
    generalize N.l[k].ins = ks
    induction ks generalizing b with
    | nil => intro _; rfl
    | cons j js ih =>
      intro e2
      have e3 : evIn (scan (evStep s) [] (N.l.take k)) N.l[k] b j = evIn (scan (evStep t) [] (N.l.take k)) N.l[k] b j := by unfold evIn; rw [e2 j (by simp)]
      show js.foldl _ (evIn _ _ b j) = js.foldl _ (evIn _ _ b j)
      rw [e3]
      exact ih _ fun j' hj' => e2 j' (by simp [hj'])
/-! Least models, as a search that goes node by node. -/
/-- A set, if there is one. -/
structure Pt where
  set : Nat
  ok : Bool
/-- Whether a set comes before another one. -/
def lessB (a b : Nat) : Bool := decide (key a < key b)
def ptIn (O : List Nat) (acc : List Pt) (af : Nat) (x : Nd) (p : Pt) (k : Int) : Pt :=
  if x.kind = 3 then ⟨p.set ||| (acc.getD k.toNat ⟨0, false⟩).set, p.ok && (acc.getD k.toNat ⟨0, false⟩).ok⟩
  else if (acc.getD k.toNat ⟨0, false⟩).ok then
    (if !p.ok || lessB ((acc.getD k.toNat ⟨0, false⟩).set ||| (minus (O.getD acc.length 0) (O.getD k.toNat 0) &&& af)) p.set then ⟨(acc.getD k.toNat ⟨0, false⟩).set ||| (minus (O.getD acc.length 0) (O.getD k.toNat 0) &&& af), true⟩ else p)
  else p
def ptStart (a f : Nat) (x : Nd) : Pt :=
  if x.kind = 1 ∨ x.kind = 3 then ⟨0, true⟩
  else if x.kind = 2 then
    (let ok := !has f (litVar x.lit) || (has a (litVar x.lit) == decide (0 < x.lit)); ⟨if ok && decide (0 < x.lit) then wth 0 (litVar x.lit) else 0, ok⟩)
  else ⟨0, false⟩
def ptStep (O : List Nat) (a f : Nat) (acc : List Pt) (x : Nd) : Pt := x.ins.foldl (ptIn O acc (a &&& f) x) (ptStart a f x)
def pts (N : Nt) (a f : Nat) : List Pt := scan (ptStep (own N.l) a f) [] N.l
def leastN (N : Nt) (a f : Nat) : Pt :=
  let p := (pts N a f).getD (N.l.length - 1) ⟨0, false⟩
  if p.ok then ⟨p.set ||| (minus (allTo N.n) ((own N.l).getD (N.l.length - 1) 0) &&& (a &&& f)), true⟩ else ⟨0, false⟩
/-- s has in U the variables of f as they are in a. -/
def agr (a f U s : Nat) : Prop := ∀ i, U.testBit i = true → f.testBit i = true → s.testBit i = a.testBit i
/-- p is the least set in U with the property M, in which the variables of f are as they are in a. -/
structure Lst (a f U : Nat) (M : Nat → Prop) (p : Pt) : Prop where
  dep : ∀ s t, (∀ i, U.testBit i = true → s.testBit i = t.testBit i) → M s → M t
  sub : p.ok = true → ∀ i, p.set.testBit i = true → U.testBit i = true
  mem : p.ok = true → M p.set ∧ agr a f U p.set
  min : ∀ s, M s → agr a f U s → p.ok = true ∧ key p.set ≤ key (s &&& U)
section
variable {a f U V : Nat} {M K : Nat → Prop} {p q : Pt}
theorem Lst.no (a f U : Nat) : Lst a f U (fun _ => False) ⟨0, false⟩ := ⟨fun _ _ _ h => h, fun h => (by cases h), fun h => (by cases h), fun _ h => False.elim h⟩
theorem Lst.yes (a f : Nat) : Lst a f 0 (fun _ => True) ⟨0, true⟩ :=
  ⟨fun _ _ _ h => h, fun _ i hi => by simp at hi, fun _ => ⟨trivial, fun i hi => by simp at hi⟩, fun s _ _ => ⟨rfl, by rw [Nat.and_zero]; exact Nat.le_refl _⟩⟩
theorem Lst.congr (h : Lst a f U M p) {M' : Nat → Prop} (e : ∀ s, M s ↔ M' s) : Lst a f U M' p :=
  ⟨fun s t hst hs => (e t).1 (h.dep s t hst ((e s).2 hs)), h.sub, fun hk => ⟨(e _).1 (h.mem hk).1, (h.mem hk).2⟩, fun s hs ha => h.min s ((e s).2 hs) ha⟩
theorem and_zero_bits {s t : Nat} (h : ∀ i, s.testBit i = true → t.testBit i = true → False) : s &&& t = 0 := by
  apply Nat.eq_of_testBit_eq
  intro i
  rw [Nat.testBit_and, Nat.zero_testBit]
  cases h1 : s.testBit i <;> cases h2 : t.testBit i <;> simp_all
theorem and_zero_no {U V : Nat} (h : U &&& V = 0) {i : Nat} (h1 : U.testBit i = true) (h2 : V.testBit i = true) : False := by
  have hb : (U &&& V).testBit i = false := by rw [h]; exact Nat.zero_testBit i
  rw [Nat.testBit_and, h1, h2] at hb; cases hb
theorem Lst.and (h : Lst a f U M p) (k : Lst a f V K q) (hd : U &&& V = 0) : Lst a f (U ||| V) (fun s => M s ∧ K s) ⟨p.set ||| q.set, p.ok && q.ok⟩ where
  dep := fun s t hst hs => ⟨h.dep s t (fun i hi => hst i (by rw [Nat.testBit_or, hi]; rfl)) hs.1, k.dep s t (fun i hi => hst i (by rw [Nat.testBit_or, hi, Bool.or_true])) hs.2⟩
  sub := fun hk i hi => by
    rw [Bool.and_eq_true] at hk
    rw [Nat.testBit_or, Bool.or_eq_true] at hi ⊢
    exact hi.imp (h.sub hk.1 i) (k.sub hk.2 i)
  mem := fun hk => by
    rw [Bool.and_eq_true] at hk
    have e1 : ∀ i, U.testBit i = true → p.set.testBit i = (p.set ||| q.set).testBit i := fun i hi => by
      rw [Nat.testBit_or]
      cases h2 : q.set.testBit i
      · simp
      · exact (and_zero_no hd hi (k.sub hk.2 i h2)).elim
    have e2 : ∀ i, V.testBit i = true → q.set.testBit i = (p.set ||| q.set).testBit i := fun i hi => by
      rw [Nat.testBit_or]
      cases h2 : p.set.testBit i
      · simp
      · exact (and_zero_no hd (h.sub hk.1 i h2) hi).elim
    refine ⟨⟨h.dep _ _ e1 (h.mem hk.1).1, k.dep _ _ e2 (k.mem hk.2).1⟩, fun i hi hf => ?_⟩
    rw [Nat.testBit_or, Bool.or_eq_true] at hi
    rcases hi with hi | hi
    · rw [← e1 i hi]; exact (h.mem hk.1).2 i hi hf
    · rw [← e2 i hi]; exact (k.mem hk.2).2 i hi hf
  min := fun s hs ha => by
    obtain ⟨h1, h2⟩ := h.min s hs.1 fun i hi hf => ha i (by rw [Nat.testBit_or, hi]; rfl) hf
    obtain ⟨k1, k2⟩ := k.min s hs.2 fun i hi hf => ha i (by rw [Nat.testBit_or, hi, Bool.or_true]) hf
    refine ⟨by show (p.ok && q.ok) = true; rw [h1, k1]; rfl, ?_⟩
    show key (p.set ||| q.set) ≤ _
    rw [key_or _ _ (and_zero_bits fun i hi hj => and_zero_no hd (h.sub h1 i hi) (k.sub k1 i hj)), Nat.and_or_distrib_left, key_or _ _ (and_zero_bits fun i hi hj => by
      rw [Nat.testBit_and, Bool.and_eq_true] at hi hj
      exact and_zero_no hd hi.2 hj.2)]
    omega
/-- With the variables that it lacks. -/
theorem Lst.wide (h : Lst a f U M p) (hUV : ∀ i, U.testBit i = true → V.testBit i = true) : Lst a f V M ⟨p.set ||| (minus V U &&& (a &&& f)), p.ok⟩ where
  dep := fun s t hst hs => h.dep s t (fun i hi => hst i (hUV i hi)) hs
  sub := fun hk i hi => by
    rw [Nat.testBit_or, Bool.or_eq_true, Nat.testBit_and, Bool.and_eq_true, minus_bit, Bool.and_eq_true] at hi
    rcases hi with hi | hi
    · exact hUV i (h.sub hk i hi)
    · exact hi.1.1
  mem := fun hk => by
    have e1 : ∀ i, U.testBit i = true → p.set.testBit i = (p.set ||| (minus V U &&& (a &&& f))).testBit i := fun i hi => by
      rw [Nat.testBit_or, Nat.testBit_and, minus_bit, hi]; simp
    refine ⟨h.dep _ _ e1 (h.mem hk).1, fun i hi hf => ?_⟩
    cases hu : U.testBit i
    · have h0 : p.set.testBit i = false := by
        cases h1 : p.set.testBit i
        · rfl
        · have h2 := h.sub hk i h1
          rw [hu] at h2; cases h2
      rw [Nat.testBit_or, h0, Nat.testBit_and, minus_bit, hi, hu, Nat.testBit_and, hf]; simp
    · rw [← e1 i hu]; exact (h.mem hk).2 i hu hf
  min := fun s hs ha => by
    obtain ⟨h1, h2⟩ := h.min s hs fun i hi hf => ha i (hUV i hi) hf
    refine ⟨h1, ?_⟩
    show key (p.set ||| (minus V U &&& (a &&& f))) ≤ key (s &&& V)
    have e : s &&& V = (s &&& U) ||| (s &&& minus V U) := by
      apply Nat.eq_of_testBit_eq
      intro i
      rw [Nat.testBit_and, Nat.testBit_or, Nat.testBit_and, Nat.testBit_and, minus_bit]
      have := hUV i
      cases s.testBit i <;> cases hu : U.testBit i <;> cases hv : V.testBit i <;> simp_all
    rw [e, key_or _ _ (and_zero_bits fun i hi hj => by
      rw [Nat.testBit_and, Bool.and_eq_true, minus_bit, Bool.and_eq_true] at hj
      have := h.sub h1 i hi
      rw [this] at hj; simp at hj), key_or _ _ (and_zero_bits fun i hi hj => by
      rw [Nat.testBit_and, Bool.and_eq_true] at hi hj
      rw [minus_bit, hi.2] at hj; simp at hj)]
    have h3 : key (minus V U &&& (a &&& f)) ≤ key (s &&& minus V U) := key_mono _ _ fun i hi => by
      rw [Nat.testBit_and, Bool.and_eq_true, Nat.testBit_and, Bool.and_eq_true] at hi
      have hm := hi.1
      rw [minus_bit, Bool.and_eq_true] at hm
      rw [Nat.testBit_and, Bool.and_eq_true]
      exact ⟨by rw [ha i hm.1 hi.2.2]; exact hi.2.1, hi.1⟩
    omega
/-- One of two. -/
theorem Lst.or (h : Lst a f U M p) (k : Lst a f U K q) : Lst a f U (fun s => M s ∨ K s) (if q.ok then (if !p.ok || lessB q.set p.set then ⟨q.set, true⟩ else p) else p) := by
  have hdep : ∀ s t, (∀ i, U.testBit i = true → s.testBit i = t.testBit i) → (M s ∨ K s) → (M t ∨ K t) := fun s t hst hs => hs.imp (h.dep s t hst) (k.dep s t hst)
  cases hq : q.ok
  · rw [if_neg (by decide)]
    refine ⟨hdep, h.sub, fun hk => ⟨.inl (h.mem hk).1, (h.mem hk).2⟩, fun s hs ha => ?_⟩
    rcases hs with hs | hs
    · exact h.min s hs ha
    · have := (k.min s hs ha).1
      rw [hq] at this; cases this
  · rw [if_pos rfl]
    cases hp : p.ok
    · rw [Bool.not_false, Bool.true_or, if_pos rfl]
      refine ⟨hdep, fun _ => k.sub hq, fun _ => ⟨.inr (k.mem hq).1, (k.mem hq).2⟩, fun s hs ha => ⟨rfl, ?_⟩⟩
      rcases hs with hs | hs
      · have := (h.min s hs ha).1
        rw [hp] at this; cases this
      · exact (k.min s hs ha).2
    · rw [Bool.not_true, Bool.false_or]
      cases hl : lessB q.set p.set
      · rw [if_neg (by decide)]
        have hle := of_decide_eq_false hl
        refine ⟨hdep, h.sub, fun hk => ⟨.inl (h.mem hk).1, (h.mem hk).2⟩, fun s hs ha => ?_⟩
        rcases hs with hs | hs
        · exact h.min s hs ha
        · have := (k.min s hs ha).2
          exact ⟨hp, by omega⟩
      · rw [if_pos rfl]
        have hle := of_decide_eq_true hl
        refine ⟨hdep, fun _ => k.sub hq, fun _ => ⟨.inr (k.mem hq).1, (k.mem hq).2⟩, fun s hs ha => ⟨rfl, ?_⟩⟩
        rcases hs with hs | hs
        · have := (h.min s hs ha).2
          show key q.set ≤ _
          omega
        · exact (k.min s hs ha).2
theorem fold_and_lst (O : List Nat) (acc : List Pt) (x : Nd) (h3 : x.kind = 3) (Mj : Nat → Nat → Prop) : ∀ (ks : List Int) (U : Nat) (M : Nat → Prop) (p : Pt), apart O U ks = true → (∀ j ∈ ks, Lst a f (O.getD j.toNat 0) (Mj j.toNat) (acc.getD j.toNat ⟨0, false⟩)) → Lst a f U M p →
    Lst a f (ks.foldl (fun s k => s ||| O.getD k.toNat 0) U) (fun s => M s ∧ ∀ j ∈ ks, Mj j.toNat s) (ks.foldl (ptIn O acc (a &&& f) x) p)
  | [], U, M, p, _, _, h => h.congr fun s => ⟨fun hs => ⟨hs, fun j hj => by cases hj⟩, fun hs => hs.1⟩
  | k :: ks, U, M, p, ha, hL, h => by
    unfold apart at ha
    split at ha
    · rename_i h0
      have e : ptIn O acc (a &&& f) x p k = ⟨p.set ||| (acc.getD k.toNat ⟨0, false⟩).set, p.ok && (acc.getD k.toNat ⟨0, false⟩).ok⟩ := by unfold ptIn; rw [if_pos h3]
      show Lst a f (ks.foldl _ (U ||| O.getD k.toNat 0)) _ (ks.foldl _ (ptIn O acc (a &&& f) x p k))
      rw [e]
      refine (fold_and_lst O acc x h3 Mj ks _ _ _ ha (fun j hj => hL j (by simp [hj])) (h.and (hL k (by simp)) h0)).congr fun s => ?_
      constructor
      · rintro ⟨⟨h1, h2⟩, h4⟩
        refine ⟨h1, fun j hj => ?_⟩
        rcases List.mem_cons.1 hj with rfl | hj
        · exact h2
        · exact h4 j hj
      · rintro ⟨h1, h2⟩
        exact ⟨⟨h1, h2 k (by simp)⟩, fun j hj => h2 j (by simp [hj])⟩
    · cases ha
theorem fold_or_lst (O : List Nat) (acc : List Pt) (x : Nd) (h3 : x.kind ≠ 3) (Mj : Nat → Nat → Prop) : ∀ (ks : List Int) (M : Nat → Prop) (p : Pt), (∀ j ∈ ks, Lst a f (O.getD j.toNat 0) (Mj j.toNat) (acc.getD j.toNat ⟨0, false⟩) ∧ ∀ i, (O.getD j.toNat 0).testBit i = true → (O.getD acc.length 0).testBit i = true) → Lst a f (O.getD acc.length 0) M p →
    Lst a f (O.getD acc.length 0) (fun s => M s ∨ ∃ j ∈ ks, Mj j.toNat s) (ks.foldl (ptIn O acc (a &&& f) x) p)
  | [], M, p, _, h => h.congr fun s => ⟨.inl, fun hs => hs.elim id fun ⟨j, hj, _⟩ => by cases hj⟩
  | k :: ks, M, p, hL, h => by
    have hk := hL k (by simp)
    have h2 := h.or (hk.1.wide hk.2)
    have e : ptIn O acc (a &&& f) x p k = (if (acc.getD k.toNat ⟨0, false⟩).ok then (if !p.ok || lessB ((acc.getD k.toNat ⟨0, false⟩).set ||| (minus (O.getD acc.length 0) (O.getD k.toNat 0) &&& (a &&& f))) p.set then ⟨(acc.getD k.toNat ⟨0, false⟩).set ||| (minus (O.getD acc.length 0) (O.getD k.toNat 0) &&& (a &&& f)), true⟩ else p) else p) := by unfold ptIn; rw [if_neg h3]
    show Lst a f _ _ (ks.foldl _ (ptIn O acc (a &&& f) x p k))
    rw [e]
    refine (fold_or_lst O acc x h3 Mj ks _ _ (fun j hj => hL j (by simp [hj])) h2).congr fun s => ?_
    constructor
    · rintro ((h1 | h1) | ⟨j, hj, h1⟩)
      · exact .inl h1
      · exact .inr ⟨k, by simp, h1⟩
      · exact .inr ⟨j, by simp [hj], h1⟩
    · rintro (h1 | ⟨j, hj, h1⟩)
      · exact .inl (.inl h1)
      · rcases List.mem_cons.1 hj with rfl | hj
        · exact .inl (.inr h1)
        · exact .inr ⟨j, hj, h1⟩
theorem fold_all (x : Nd) (h3 : x.kind = 3) (T : List Bool) : ∀ (ks : List Int) (b : Bool), ks.foldl (evIn T x) b = (b && ks.all fun j => T.getD j.toNat false)
  | [], b => by simp
  | k :: ks, b => by
    show ks.foldl (evIn T x) (evIn T x b k) = _
    rw [fold_all x h3 T ks, List.all_cons, ← Bool.and_assoc]
    congr 1
    unfold evIn; rw [if_pos h3]
end
/-- What a node is true of. -/
def MdN (N : Nt) (k s : Nat) : Prop := (truth s N.l).getD k false = true
/-- The truth of a node, by its kind. -/
theorem truth_kinds {N : Nt} (hv : vld N = true) (k : Nat) (hk : k < N.l.length) :
    (N.l[k].kind = 0 ∧ N.l[k].ins = [] ∧ (own N.l).getD k 0 = 0 ∧ ∀ s, ¬ MdN N k s) ∨ (N.l[k].kind = 1 ∧ N.l[k].ins = [] ∧ (own N.l).getD k 0 = 0 ∧ ∀ s, MdN N k s) ∨
    (N.l[k].kind = 2 ∧ N.l[k].ins = [] ∧ litOk N.l[k].lit N.n = true ∧ (own N.l).getD k 0 = wth 0 (litVar N.l[k].lit) ∧ ∀ s, MdN N k s ↔ hld s N.l[k].lit = true) ∨
    (N.l[k].kind = 3 ∧ (own N.l).getD k 0 = N.l[k].ins.foldl (fun s j => s ||| (own N.l).getD j.toNat 0) 0 ∧ ∀ s, MdN N k s ↔ ∀ j ∈ N.l[k].ins, MdN N j.toNat s) ∨
    (N.l[k].kind = 4 ∧ (∀ j ∈ N.l[k].ins, ∀ i, ((own N.l).getD j.toNat 0).testBit i = true → ((own N.l).getD k 0).testBit i = true) ∧ ∀ s, MdN N k s ↔ ∃ j ∈ N.l[k].ins, MdN N j.toNat s) := by
  have hfm := vld_formed hv k hk
  have hmem := formed_mem hfm
  have hstep : ∀ s, (truth s N.l).getD k false = N.l[k].ins.foldl (evIn (scan (evStep s) [] (N.l.take k)) N.l[k]) (evStart s N.l[k]) := fun s => by
    unfold truth; rw [scan_at _ _ _ k hk]; rfl
  have hpre : ∀ s, ∀ j ∈ N.l[k].ins, (scan (evStep s) [] (N.l.take k)).getD j.toNat false = (truth s N.l).getD j.toNat false := fun s j hj => by
    obtain ⟨q, rfl, hq⟩ := hmem j hj
    rw [Int.toNat_natCast, scan_get _ _ _ k q (by omega) hq]; rfl
  have hown : ∀ i, ((own N.l).getD k 0).testBit i = ((wth 0 (litVar N.l[k].lit)).testBit i || N.l[k].ins.any fun j => ((own N.l).getD j.toNat 0).testBit i) := own_bit hv k hk
  have h00 : ∀ i, (wth 0 (litVar 0)).testBit i = false := fun i => by rw [wth_bit]; exact decide_eq_false (by show ¬ (0 : Int) = _; omega)
  have hnil : N.l[k].kind ≠ 3 → N.l[k].kind ≠ 4 → N.l[k].ins = [] := fun h3 h4 => by
    rcases formed_kind hfm with ⟨_, h⟩ | h | h
    · exact List.length_eq_zero_iff.1 h
    · exact absurd h h3
    · exact absurd h h4
  rcases formed_kinds hfm with h | h | h | h | h
  · have hin := hnil (by omega) (by omega)
    refine .inl ⟨h, hin, ?_, fun s hs => ?_⟩
    · apply Nat.eq_of_testBit_eq; intro i
      rw [hown, hin, formed_lit0 hfm (by omega), h00, Nat.zero_testBit]; rfl
    · unfold MdN at hs
      rw [hstep, hin] at hs
      unfold evStart at hs; rw [h] at hs; cases hs
  · have hin := hnil (by omega) (by omega)
    refine .inr (.inl ⟨h, hin, ?_, fun s => ?_⟩)
    · apply Nat.eq_of_testBit_eq; intro i
      rw [hown, hin, formed_lit0 hfm (by omega), h00, Nat.zero_testBit]; rfl
    · unfold MdN
      rw [hstep, hin]
      show evStart s _ = true
      unfold evStart; rw [h]; rfl
  · obtain ⟨hl, hin⟩ := formed_litOk hfm h
    refine .inr (.inr (.inl ⟨h, hin, hl, ?_, fun s => ?_⟩))
    · apply Nat.eq_of_testBit_eq; intro i
      rw [hown, hin, List.any_nil, Bool.or_false]
    · unfold MdN
      rw [hstep, hin]
      show evStart s _ = true ↔ _
      unfold evStart; rw [h]; simp
  · refine .inr (.inr (.inr (.inl ⟨h, ?_, fun s => ?_⟩)))
    · apply Nat.eq_of_testBit_eq; intro i
      rw [hown, fold_bit, formed_lit0 hfm (by omega), h00, Nat.zero_testBit]
    · unfold MdN
      rw [hstep, fold_all _ h, Bool.and_eq_true, List.all_eq_true]
      have he : evStart s N.l[k] = true := by unfold evStart; rw [h]; rfl
      rw [he]
      exact ⟨fun h1 j hj => by rw [← hpre s j hj]; exact h1.2 j hj, fun h1 => ⟨rfl, fun j hj => by rw [hpre s j hj]; exact h1 j hj⟩⟩
  · refine .inr (.inr (.inr (.inr ⟨h, fun j hj i hi => own_ins hv k hk j hj i hi, fun s => ?_⟩)))
    unfold MdN
    rw [hstep, fold_ev _ (by omega), Bool.or_eq_true, List.any_eq_true]
    have he : evStart s N.l[k] = false := by unfold evStart; rw [h]; rfl
    rw [he]
    constructor
    · rintro (h1 | ⟨j, hj, h1⟩)
      · cases h1
      · exact ⟨j, hj, by rw [← hpre s j hj]; exact h1⟩
    · rintro ⟨j, hj, h1⟩
      exact .inr ⟨j, hj, by rw [hpre s j hj]; exact h1⟩
theorem lit_bit (l : Int) (i : Nat) (h : (wth 0 (litVar l)).testBit i = true) : litVar l = (i : Int) + 1 := by
  rw [wth_bit] at h; exact of_decide_eq_true h
theorem lit_lst {n : Int} (a f : Nat) (x : Nd) (hl : litOk x.lit n = true) (h2 : x.kind = 2) : Lst a f (wth 0 (litVar x.lit)) (fun s => hld s x.lit = true) (ptStart a f x) := by
  have hr := litOk_rng' hl
  have hlv : litVar x.lit = if 0 < x.lit then x.lit else -x.lit := by unfold litVar; repeat' split <;> omega
  have hb := litVar_le x.lit
  obtain ⟨v, hv⟩ : ∃ v : Nat, litVar x.lit = (v : Int) + 1 := ⟨(litVar x.lit).toNat - 1, by split at hlv <;> omega⟩
  have hv128 : v < 128 := by omega
  have hbit : ∀ i, (wth 0 (litVar x.lit)).testBit i = decide (i = v) := fun i => by
    rw [wth_bit]; exact decide_eq_decide.2 (by omega)
  have hh : ∀ s, hld s x.lit = (s.testBit v == decide (0 < x.lit)) := fun s => by
    unfold hld
    rw [decide_eq_true (show litVar x.lit ≠ 0 by omega), Bool.true_and, show (litVar x.lit).toNat - 1 = v by omega]
  have hha : ∀ s, has s (litVar x.lit) = s.testBit v := fun s => by
    unfold has
    rw [decide_eq_true (show 1 ≤ litVar x.lit ∧ litVar x.lit ≤ 128 by omega), Bool.true_and, show (litVar x.lit).toNat - 1 = v by omega]
  obtain ⟨S, hS⟩ : ∃ b, decide (0 < x.lit) = b := ⟨_, rfl⟩
  have he : ptStart a f x = ⟨if (!f.testBit v || (a.testBit v == S)) && S then wth 0 (litVar x.lit) else 0, !f.testBit v || (a.testBit v == S)⟩ := by
    unfold ptStart
    rw [if_neg (by omega), if_pos h2]
    simp only [hha, hS]
  rw [he]
  simp only [hh, hS]
  refine ⟨fun s t hst hs => ?_, fun hk i hi => ?_, fun hk => ?_, fun s hs ha => ?_⟩
  · rw [← hst v (by rw [hbit]; simp)]; exact hs
  · split at hi
    · exact hi
    · simp at hi
  · have hk' : (!f.testBit v || (a.testBit v == S)) = true := hk
    simp only [hk', Bool.true_and]
    have hset : (if S = true then wth 0 (litVar x.lit) else 0).testBit v = S := by
      cases S
      · simp
      · rw [if_pos rfl, hbit]; simp
    refine ⟨by rw [hset]; simp, fun i hi hf => ?_⟩
    rw [hbit] at hi
    have : i = v := of_decide_eq_true hi
    subst this
    rw [hset]
    rw [hf] at hk'
    cases S <;> cases h : a.testBit i <;> simp_all
  · have hsv : s.testBit v = S := by cases h : s.testBit v <;> cases S <;> simp_all
    have hok : (!f.testBit v || (a.testBit v == S)) = true := by
      cases hf : f.testBit v
      · rfl
      · have := ha v (by rw [hbit]; simp) hf
        rw [← this, hsv]; simp
    refine ⟨hok, ?_⟩
    simp only [hok, Bool.true_and]
    refine key_mono _ _ fun i hi => ?_
    split at hi
    · rw [hbit] at hi
      have : i = v := of_decide_eq_true hi
      subst this
      rw [Nat.testBit_and, hsv, hbit]
      simp; assumption
    · simp at hi
theorem pts_lst {N : Nt} (hv : vld N = true) (hd : dcmp N = true) (a f : Nat) : ∀ (m k : Nat), k < m → k < N.l.length → Lst a f ((own N.l).getD k 0) (MdN N k) ((pts N a f).getD k ⟨0, false⟩)
  | m + 1, k, hkm, hk => by
    have hfm := vld_formed hv k hk
    have hacc : ∀ j ∈ N.l[k].ins, Lst a f ((own N.l).getD j.toNat 0) (MdN N j.toNat) ((scan (ptStep (own N.l) a f) [] (N.l.take k)).getD j.toNat ⟨0, false⟩) := fun j hj => by
      obtain ⟨q, rfl, hq⟩ := formed_mem hfm j hj
      rw [Int.toNat_natCast, scan_get _ _ _ k q (by omega) hq]
      exact pts_lst hv hd a f m q (by omega) (by omega)
    unfold pts
    rw [scan_at _ _ _ k hk]
    show Lst a f _ _ (N.l[k].ins.foldl (ptIn (own N.l) (scan (ptStep (own N.l) a f) [] (N.l.take k)) (a &&& f) N.l[k]) (ptStart a f N.l[k]))
    have hlen : (scan (ptStep (own N.l) a f) [] (N.l.take k)).length = k := scan_len _ _ _ (by omega)
    rcases truth_kinds hv k hk with ⟨h, hin, ho, hM⟩ | ⟨h, hin, ho, hM⟩ | ⟨h, hin, hl, ho, hM⟩ | ⟨h, ho, hM⟩ | ⟨h, ho, hM⟩
    · rw [hin, ho]
      have e : ptStart a f N.l[k] = ⟨0, false⟩ := by unfold ptStart; rw [if_neg (by omega), if_neg (by omega)]
      show Lst a f 0 _ (ptStart a f N.l[k])
      rw [e]
      exact (Lst.no a f 0).congr fun s => ⟨False.elim, fun h => hM s h⟩
    · rw [hin, ho]
      have e : ptStart a f N.l[k] = ⟨0, true⟩ := by unfold ptStart; rw [if_pos (.inl h)]
      show Lst a f 0 _ (ptStart a f N.l[k])
      rw [e]
      exact (Lst.yes a f).congr fun s => ⟨fun _ => hM s, fun _ => trivial⟩
    · rw [hin, ho]
      exact (lit_lst a f _ hl h).congr fun s => (hM s).symm
    · have e : ptStart a f N.l[k] = ⟨0, true⟩ := by unfold ptStart; rw [if_pos (.inr h)]
      rw [e, ho]
      refine (fold_and_lst (own N.l) _ _ h (MdN N) _ 0 _ _ (dcmpL_at _ _ k hk hd h) hacc (Lst.yes a f)).congr fun s => ?_
      rw [hM]
      exact ⟨fun h => h.2, fun h => ⟨trivial, h⟩⟩
    · have e : ptStart a f N.l[k] = ⟨0, false⟩ := by unfold ptStart; rw [if_neg (by omega), if_neg (by omega)]
      rw [e]
      have h2 := fold_or_lst (a := a) (f := f) (own N.l) (scan (ptStep (own N.l) a f) [] (N.l.take k)) N.l[k] (by omega) (MdN N) N.l[k].ins (fun _ => False) ⟨0, false⟩ (fun j hj => ⟨hacc j hj, fun i hi => by rw [hlen]; exact ho j hj i hi⟩) (Lst.no a f _)
      rw [hlen] at h2
      refine h2.congr fun s => ?_
      rw [hM]
      exact ⟨fun h => h.elim False.elim id, .inr⟩
/-- The least model in which the variables of f are as they are in a. -/
theorem least_lst {N : Nt} (hv : vld N = true) (hd : dcmp N = true) (a f : Nat) : Lst a f (allTo N.n) (fun s => evB N s = true) (leastN N a f) := by
  obtain ⟨hn0, hn1, hl0, hl1⟩ := vld_bounds hv
  have h := (pts_lst hv hd a f N.l.length (N.l.length - 1) (by omega) (by omega)).wide (V := allTo N.n) fun i hi => by
    have := own_sub hv N.l.length (N.l.length - 1) (by omega) (by omega) i hi
    rw [allTo_bit]; simp; omega
  unfold leastN
  obtain ⟨p, hp⟩ : ∃ p, (pts N a f).getD (N.l.length - 1) ⟨0, false⟩ = p := ⟨_, rfl⟩
  rw [hp] at h
  simp only [hp]
  cases hk : p.ok
  · rw [if_neg (by decide)]
    refine ⟨h.dep, fun h => (by cases h), fun h => (by cases h), fun s hs ha => ?_⟩
    have := (h.min s hs ha).1
    rw [hk] at this; cases this
  · rw [if_pos rfl]
    rw [hk] at h
    exact h
end Cs
end
