/- Pairs that are fractions, as they lie in memory; the walks of weigh's one and product. -/
import Derived.Test.YtgnobohfnhpkdaaGreatDoorD7
import Derived.Test.YtgnobohfnhpkdaaGreatDoorDl
set_option linter.unusedSimpArgs false
set_option linter.unusedVariables false
open Go Go.RowKit Cs
namespace Cs
abbrev Pr := Nat × Nat
/-- The fraction that a pair is. -/
def qp (p : Pr) : Rat := qq p.1 p.2
/-- The pair of a fraction. -/
def pq (q : Rat) : Pr := (qn q, q.den)
def padd (a b : Pr) : Pr := pq (qp a + qp b)
def pmul (a b : Pr) : Pr := pq (qp a * qp b)
/-- A pair in lowest terms, or (0, 0). -/
def Lp (p : Pr) : Prop := Lt p.1 p.2
theorem Lp.zero : Lp (0, 0) := Lt.zero
theorem Lp.pq {q : Rat} (h : 0 ≤ q) : Lp (pq q) := Lt.can h
theorem qp_pq {q : Rat} (h : 0 ≤ q) : qp (pq q) = q := qq_can h
theorem qp_nonneg (p : Pr) : 0 ≤ qp p := qq_nonneg _ _
theorem qp_add (a b : Pr) : qp (padd a b) = qp a + qp b := qp_pq (Rat.add_nonneg (qp_nonneg a) (qp_nonneg b))
theorem qp_mul (a b : Pr) : qp (pmul a b) = qp a * qp b := qp_pq (Rat.mul_nonneg (qp_nonneg a) (qp_nonneg b))
theorem Lp_add (a b : Pr) : Lp (padd a b) := Lp.pq (Rat.add_nonneg (qp_nonneg a) (qp_nonneg b))
theorem Lp_mul (a b : Pr) : Lp (pmul a b) := Lp.pq (Rat.mul_nonneg (qp_nonneg a) (qp_nonneg b))
theorem qp_zero : qp (0, 0) = 0 := (qq_zero_iff 0 0).2 rfl
theorem qp_one : qp (1, 1) = 1 := by decide +kernel
theorem Lp.one : Lp (1, 1) := by
  have h : Cs.pq 1 = (1, 1) := by decide +kernel
  rw [← h]; exact Lp.pq (by decide +kernel)
/-- How great the parts of a pair are. -/
def Sp (p : Pr) : Prop := n8 p.1 ≤ 100000 ∧ n8 p.2 ≤ 100000
theorem n8_sm (V : Nat) (h : V < 2 ^ smB) : n8 V ≤ 100000 := n8_pow V smB 100000 h (by have := smB_le; omega)
theorem Sp.of {p : Pr} (h : Lp p) (hs : Sm smB (qp p)) : Sp p := by
  obtain ⟨h1, h2⟩ := h
  obtain ⟨_, s1, s2⟩ := hs
  constructor
  · refine n8_sm _ ?_
    rw [h1]; exact s1
  · rcases h2 with h2 | ⟨_, h2⟩
    · refine n8_sm _ ?_
      rw [h2]; exact s2
    · rw [h2, n8_zero]; omega
theorem Sp.zero : Sp (0, 0) := by constructor <;> (show n8 0 ≤ _; rw [n8_zero]; omega)
/-- The cells of pairs. -/
def prsF (L : List Pr) (j : Nat) : Value := .string (natB (if j % 2 = 0 then (L.getD (j / 2) (0, 0)).1 else (L.getD (j / 2) (0, 0)).2))
theorem prsF_0 (L : List Pr) (k : Nat) : prsF L (k * 2) = .string (natB (L.getD k (0, 0)).1) := by
  unfold prsF; rw [if_pos (by omega), show k * 2 / 2 = k by omega]
theorem prsF_1 (L : List Pr) (k : Nat) : prsF L (k * 2 + 1) = .string (natB (L.getD k (0, 0)).2) := by
  unfold prsF; rw [if_neg (by omega), show (k * 2 + 1) / 2 = k by omega]
theorem prsCells {w : World} {g n : Nat} {t : TypeId} {L : List Pr} (h : w.rowIs g t (n * 2) (prsF L)) (k : Nat) (hk : k < n) :
    w.cell? ⟨g, k * 2, none⟩ = some (.string (natB (L.getD k (0, 0)).1)) ∧ w.cell? ⟨g, k * 2 + 1, none⟩ = some (.string (natB (L.getD k (0, 0)).2)) :=
  ⟨(h.cell (i := k * 2) (by omega)).trans (by rw [prsF_0]), (h.cell (i := k * 2 + 1) (by omega)).trans (by rw [prsF_1])⟩
/-- A pair is written behind those that are there. -/
theorem prsNext {w : World} {g n : Nat} {t : TypeId} {L : List Pr} (h : w.rowIs g t (n * 2) (prsF L)) (p : Pr) (k : Nat) (hk : k = L.length) :
    ((w.setCell ⟨g, k * 2, none⟩ (.string (natB p.1))).setCell ⟨g, k * 2 + 1, none⟩ (.string (natB p.2))).rowIs g t (n * 2) (prsF (L ++ [p])) := by
  subst hk
  refine ((h.set _ _).set _ _).congr fun i hi => ?_
  have e : ∀ j, (L ++ [p]).getD j (0, 0) = if j = L.length then p else L.getD j (0, 0) := fun j => by
    rw [List.getD_eq_getElem?_getD, List.getD_eq_getElem?_getD]
    split
    · rename_i h1; rw [h1, List.getElem?_append_right (Nat.le_refl _)]; simp
    · rename_i h1
      rcases Nat.lt_or_ge j L.length with h2 | h2
      · rw [List.getElem?_append_left h2]
      · rw [List.getElem?_append_right h2, List.getElem?_eq_none (by simp; omega), List.getElem?_eq_none (by omega)]
  by_cases h1 : i = L.length * 2 + 1
  · subst h1
    rw [if_pos rfl, prsF_1, e, if_pos rfl]
  · rw [if_neg h1]
    by_cases h2 : i = L.length * 2
    · subst h2
      rw [if_pos rfl, prsF_0, e, if_pos rfl]
    · rw [if_neg h2]
      have h3 : ¬ i / 2 = L.length := by omega
      unfold prsF
      simp only [e, h3, if_false]
/-- A pair is written over one that is there. -/
theorem prsSet {w : World} {g n : Nat} {t : TypeId} {L : List Pr} (h : w.rowIs g t (n * 2) (prsF L)) (p : Pr) (k : Nat) (hk : k < L.length) :
    ((w.setCell ⟨g, k * 2, none⟩ (.string (natB p.1))).setCell ⟨g, k * 2 + 1, none⟩ (.string (natB p.2))).rowIs g t (n * 2) (prsF (L.set k p)) := by
  refine ((h.set _ _).set _ _).congr fun i hi => ?_
  have e : ∀ j, (L.set k p).getD j (0, 0) = if j = k then p else L.getD j (0, 0) := fun j => by
    rw [List.getD_eq_getElem?_getD, List.getD_eq_getElem?_getD, List.getElem?_set]
    split
    · rename_i h1; rw [if_pos h1.symm]; subst h1; first | rfl | (rw [if_pos hk]; rfl)
    · rename_i h1; rw [if_neg (fun h => h1 h.symm)]
  by_cases h1 : i = k * 2 + 1
  · subst h1
    rw [if_pos rfl, prsF_1, e, if_pos rfl]
  · rw [if_neg h1]
    by_cases h2 : i = k * 2
    · subst h2
      rw [if_pos rfl, prsF_0, e, if_pos rfl]
    · rw [if_neg h2]
      have h3 : ¬ i / 2 = k := by omega
      unfold prsF
      simp only [e, h3, if_false]
theorem prsMade (w : World) (m : Nat) (t : TypeId) (g : Nat) (hg : w.heap.size = g) : (w.alloc (.cells (madeCells #[.string ⟨#[]⟩, .string ⟨#[]⟩] (m * 2)) t)).rowIs g t (m * 2) (prsF []) := by
  subst hg
  have h := World.rowIs_alloc w (madeCells #[.string ⟨#[]⟩, .string ⟨#[]⟩] (m * 2)) t (prsF []) fun i hi => by
    simp [size_madeCells] at hi
    unfold madeCells prsF
    have h0 : natB 0 = ⟨#[]⟩ := by simp [natB, n8_zero]
    have : i % 2 = 0 ∨ i % 2 = 1 := by omega
    rcases this with h | h <;> simp [h, hi, h0]
  simpa [size_madeCells] using h
end Cs
namespace Go.Proofs.YtgnobohfnhpkdaaGreatDoor
set_option maxRecDepth 100000 in
theorem one_any (w : World) : Calls Tryz.prog 50 #[] w fun e w' => e = .returned (ratV 1 1) ∧ Below w.heap.size w w' := by
  have hr := ratZero w 74 _ rfl
  have hbel := (Below.refl w.heap.size w).alloc (Nat.le_refl _) (.cells #[.string ⟨#[]⟩, .string ⟨#[]⟩] 74)
  go_enter Tryz.func50, Tryz.ntmps50
  go_wp2_with (
    go_at_call 101
    (with_reducible refine (qof_one _).mono ?_)
    rintro e w1 ⟨rfl, hb1⟩
    have hz1 := hb1.size
    simp at hz1
    replace hr := (rowBelow hr hb1).alloc (.cells #[.string (natB 1), .string (natB 1)] 74)
    obtain ⟨c0, c1⟩ := ratCells hr
    have f0 := hr.frozen 0
    have f1 := hr.frozen 1
    replace hbel := (hbel.trans (hb1.mono (by simp))).alloc (by omega) (.cells #[.string (natB 1), .string (natB 1)] 74))
  exact ret_rat rfl 1 1 rfl (ratSet hr 1 1) rfl ⟨rfl, (hbel.setCell (by simp) _).setCell (by simp) _⟩
set_option maxRecDepth 100000 in
set_option maxHeartbeats 1000000 in
/-- product. -/
theorem product_any (w : World) (g m cap : Nat) (L : List Pr) (hm : m ≤ 100000000) (hL : L.length = m) (hr0 : w.rowIs g 74 (m * 2) (prsF L))
    (hsp : ∀ k, Sp (L.getD k (0, 0))) (hpart : ∀ k, Sp ((L.take k).foldl pmul (1, 1))) :
    Calls Tryz.prog 122 #[.slice (some ⟨g, 0, none⟩) m cap] w fun e w' => e = .returned (ratV (L.foldl pmul (1, 1)).1 (L.foldl pmul (1, 1)).2) ∧ Below w.heap.size w w' := by
  obtain ⟨R, hR⟩ : ∃ R, L.foldl pmul (1, 1) = R := ⟨_, rfl⟩
  rw [hR]
  have HR := Lib.hid hR
  have hr := ratZero w 74 _ rfl
  have hbel := (Below.refl w.heap.size w).alloc (Nat.le_refl _) (.cells #[.string ⟨#[]⟩, .string ⟨#[]⟩] 74)
  have hg := hr0.lt
  have hcl := fun k hk => prsCells hr0 k hk
  have HCL := Lib.hid hcl
  have HSP := Lib.hid hsp
  have HPT := Lib.hid hpart
  clear hR hcl hsp hpart hr0
  go_enter Tryz.func122, Tryz.ntmps122
  go_wp2_with (
    go_at_call 50
    (with_reducible refine (one_any _).mono ?_)
    rintro e w1 ⟨rfl, hb1⟩
    have hz1 := hb1.size
    simp at hz1
    replace hr := (rowBelow hr hb1).alloc (.cells #[.string (natB 1), .string (natB 1)] 74)
    have hx := ratNew w1 1 1 74 _ rfl
    replace hbel := (hbel.trans (hb1.mono (by simp))).alloc (by omega) (.cells #[.string (natB 1), .string (natB 1)] 74)
    clear hb1)
  go_loopw [9] (fun t wr => ∃ k : Nat, ∃ p : Pr, k ≤ m ∧ t = .int .i64 k ∧ Hid ((L.take k).foldl pmul (1, 1) = p) ∧ wr.rowIs w.heap.size 74 2 (ratF 0 0) ∧ wr.rowIs w1.heap.size 74 2 (ratF p.1 p.2) ∧ Below w.heap.size w wr) (fun t _ => m - (intOf t).toNat)
  case atStart => exact ⟨0, (1, 1), by omega, rfl, rfl, hr, hx, hbel⟩
  case round =>
    clear hr hx hbel
    obtain ⟨k, ⟨n, d⟩, hk, rfl, HP, hr, hx, hbel⟩ := hrel
    by_cases hlt : k < m
    · obtain ⟨c1, c2⟩ := HCL.out k hlt
      replace c1 := below_cell hbel hg c1
      replace c2 := below_cell hbel hg c2
      have hs1 := HSP.out k
      have hs2 := HPT.out k
      rw [HP.out] at hs2
      have htk : (L.take (k + 1)).foldl pmul (1, 1) = pmul (n, d) (L.getD k (0, 0)) := by
        rw [List.take_succ_eq_append_getElem (by omega), List.foldl_append, HP.out, List.getD_eq_getElem?_getD, List.getElem?_eq_getElem (by omega)]
        rfl
      generalize L.getD k (0, 0) = q at *
      obtain ⟨n', d'⟩ := q
      have HTK := Lib.hid htk
      have hml := fun W => qmul_any W n d n' d' hs2.1 hs2.2 hs1.1 hs1.2
      have HML := Lib.hid hml
      clear htk hml hs1 hs2
      obtain ⟨W0, rfl⟩ : ∃ W0, W0 = wr := ⟨wr, rfl⟩
      have hbel2 := hbel.alloc hbel.size (.cells #[.string (natB n'), .string (natB d')] 74)
      have hr2 := hr.alloc (.cells #[.string (natB n'), .string (natB d')] 74)
      have hx2 := hx.alloc (.cells #[.string (natB n'), .string (natB d')] 74)
      obtain ⟨x1, x2⟩ := ratCells hx2
      go_wp2_with (
        go_at_call 82
        (with_reducible refine (HML.out _).mono ?_)
        rintro e w3 ⟨rfl, hb3⟩
        replace hr2 := rowBelow hr2 hb3
        replace hx2 := rowBelow hx2 hb3
        replace hbel2 := Cs.Below.trans' hbel2 hb3 hbel2.size
        clear x1 x2
        obtain ⟨x1, x2⟩ := ratCells hx2
        have f1 := hx2.frozen 0
        have f2 := hx2.frozen 1)
      go_roundw
      case rel => exact ⟨k + 1, pmul (n, d) (n', d'), by omega, by go_num, HTK, (hr2.setOther (by simp; omega) _).setOther (by simp; omega) _, ratSet hx2 _ _, (hbel2.setCell (by simp; omega) _).setCell (by simp; omega) _⟩
      case measure => simp [intOf]; omega
    · obtain rfl : k = m := by omega
      have hp := HP.out
      rw [← hL, List.take_length, HR.out] at hp
      subst hp
      obtain ⟨x1, x2⟩ := ratCells hx
      obtain ⟨c1, c2⟩ := ratCells hr
      have f1 := hr.frozen 0
      have f2 := hr.frozen 1
      go_wp2
      exact ret_rat rfl _ _ rfl (ratSet hr _ _) rfl ⟨rfl, (hbel.setCell (by simp) _).setCell (by simp) _⟩
end Go.Proofs.YtgnobohfnhpkdaaGreatDoor
