/- The walks of nat.grow and nat.Read. The walk of nat.Read. The walk of a fraction's Text. The walks of strings.Cut at a slash, and of rat.Read. Plain facts on texts of numbers: what Read lets in is the decimal form. The walk of rat.Read. rat.Read: what it returns for every text. -/
import Derived.Test.YtgnobohfnhpkdaaGreatDoorN1
import Derived.Test.YtgnobohfnhpkdaaGreatDoorM1
import Derived.Laws.OwnMore
import Derived.BigGuardPart
import Derived.Laws.ResultCell
import Derived.Test.YtgnobohfnhpkdaaGreatDoorDl
import Derived.Test.YtgnobohfnhpkdaaGreatDoorN3
import Derived.Lib.Bytealg
import Derived.Lib.Strings
import Derived.Laws.Externs
import Derived.Laws.Strings3
import Derived.BigRegion
section
section
set_option linter.unusedSimpArgs false
set_option linter.unusedVariables false
open Go Go.RowKit Cs
namespace Cs
def digV (s : List UInt8) : Nat → Nat
  | 0 => 0
  | k + 1 => digV s k * 10 + ((s.getD k 0).toNat - 48)
theorem digV_lt (s : List UInt8) (h : ∀ i, (s.getD i 0).toNat ≤ 57) : ∀ k, digV s k < 10 ^ k
  | 0 => Nat.one_pos
  | k + 1 => by
    have h1 := digV_lt s h k
    have h2 := h k
    show digV s k * 10 + _ < 10 ^ (k + 1)
    rw [Nat.pow_succ]
    omega
end Cs
end
section
set_option linter.unusedSimpArgs false
set_option linter.unusedVariables false
open Go Go.RowKit Cs
namespace Cs
def allDig (s : ByteArray) : Prop := ∀ k (h : k < s.size), 48 ≤ s[k].toNat ∧ s[k].toNat ≤ 57
structure IsNum (s : ByteArray) : Prop where
  pos : 0 < s.size
  few : s.size ≤ 2000
  dig : allDig s
  led : ∀ h : 1 < s.size, s[0].toNat ≠ 48
end Cs
end
end
section
section
set_option linter.unusedSimpArgs false
set_option linter.unusedVariables false
open Go Go.RowKit Cs
namespace Cs
def slash (s : ByteArray) : Int := Lib.indexByte s.data.toList 47
end Cs
namespace Go.Proofs.YtgnobohfnhpkdaaGreatDoor
def cutN (s : ByteArray) : ByteArray := if slash s = -1 then s else s.extract 0 (slash s).toNat
def cutD (s : ByteArray) : ByteArray := if slash s = -1 then ⟨#[]⟩ else s.extract ((slash s).toNat + 1) s.size
end Go.Proofs.YtgnobohfnhpkdaaGreatDoor
end
section
set_option linter.unusedSimpArgs false
set_option linter.unusedVariables false
open Go Go.RowKit Cs
namespace Cs
theorem dg_snoc0 (x d : Nat) (h : d < 10) : dg 10 (x * 10 + d) 0 = d := by unfold dg; simp; omega
theorem dg_snoc1 (x d j : Nat) (h : d < 10) : dg 10 (x * 10 + d) (j + 1) = dg 10 x j := by
  unfold dg
  rw [Nat.pow_succ, Nat.mul_comm (10 ^ j), ← Nat.div_div_eq_div_mul]
  congr 2
  omega
def sdg (l : List UInt8) (i : Nat) : Nat := (l.getD i 0).toNat - 48
theorem digV_dg (l : List UInt8) (h : ∀ i, (l.getD i 0).toNat ≤ 57) : ∀ k j, j < k → dg 10 (digV l k) j = sdg l (k - 1 - j)
  | 0, j, hj => by omega
  | k + 1, j, hj => by
    have hd : sdg l k < 10 := by unfold sdg; have := h k; omega
    show dg 10 (digV l k * 10 + sdg l k) j = _
    cases j with
    | zero => rw [dg_snoc0 _ _ hd]; simp
    | succ j =>
      rw [dg_snoc1 _ _ _ hd, digV_dg l h k j (by omega)]
      congr 1
      omega
theorem digV_ge (l : List UInt8) (h0 : 1 ≤ sdg l 0) : ∀ k, 10 ^ k ≤ digV l (k + 1)
  | 0 => by show 1 ≤ digV l 0 * 10 + sdg l 0; omega
  | k + 1 => by
    have := digV_ge l h0 k
    show 10 ^ (k + 1) ≤ digV l (k + 1) * 10 + _
    rw [Nat.pow_succ]
    omega
theorem toList_getD (s : ByteArray) (i : Nat) (h : i < s.size) : s.data.toList.getD i 0 = s[i] := by
  rw [List.getD_eq_getElem?_getD, List.getElem?_eq_getElem (by simpa using h)]
  rfl
theorem getD_small (s : ByteArray) (h : allDig s) (i : Nat) : (s.data.toList.getD i 0).toNat ≤ 57 := by
  rcases Nat.lt_or_ge i s.size with hi | hi
  · rw [toList_getD s i hi]; exact (h i hi).2
  · rw [List.getD_eq_getElem?_getD, List.getElem?_eq_none (by simpa using hi)]; decide
def numV (s : ByteArray) : Nat := digV s.data.toList s.size
theorem numV_lt {s : ByteArray} (h : IsNum s) : numV s < 10 ^ s.size := digV_lt _ (getD_small s h.dig) _
theorem numV_n8 {s : ByteArray} (h : IsNum s) : n8 (numV s) ≤ 2000 := by
  refine Nat.le_trans ((n8_le s.size _).2 (Nat.lt_of_lt_of_le (numV_lt h) (Nat.pow_le_pow_left (by decide) _))) h.few
theorem numV_decN {s : ByteArray} (h : IsNum s) : decN (numV s) = s.size := by
  have hp := h.pos
  by_cases h1 : s.size = 1
  · have := numV_lt h
    rw [h1] at this ⊢
    unfold decN
    have : nd 10 (numV s) ≤ 1 := (nd_le_iff 10 (by decide) 1 _).2 this
    omega
  · have hl := h.led (by omega)
    have hd := h.dig 0 hp
    have h0 : 1 ≤ sdg s.data.toList 0 := by
      unfold sdg
      rw [toList_getD s 0 hp]
      omega
    obtain ⟨m, hm⟩ : ∃ m, s.size = m + 1 := ⟨s.size - 1, by omega⟩
    have h2 := digV_ge _ h0 m
    have h3 := numV_lt h
    have h4 : nd 10 (numV s) = s.size := nd_eq 10 (by decide) _ _ h3 (.inr (by
      unfold numV
      rw [hm]
      exact h2))
    unfold decN
    omega
theorem num_dec {s : ByteArray} (h : IsNum s) : s = dec (numV s) := by
  have hs : (dec (numV s)).size = s.size := by rw [dec_size, numV_decN h]
  refine ByteArray.ext_getElem hs.symm fun i h1 h2 => ?_
  have e := dec_get (numV s) i h2
  rw [numV_decN h] at e
  have hd : dg 10 (numV s) (s.size - 1 - i) = sdg s.data.toList (s.size - 1 - (s.size - 1 - i)) := digV_dg s.data.toList (getD_small s h.dig) s.size (s.size - 1 - i) (by omega)
  have hi := h.dig i h1
  rw [hd] at e
  unfold sdg at e
  rw [show s.size - 1 - (s.size - 1 - i) = i by omega, toList_getD s i h1] at e
  refine UInt8.toNat_inj.1 ?_
  omega
theorem dec_digs (V : Nat) : ∀ k, k ≤ decN V → digV (dec V).data.toList k = V / 10 ^ (decN V - k)
  | 0, _ => by
    show 0 = _
    rw [Nat.sub_zero, Nat.div_eq_of_lt]
    exact Nat.lt_of_lt_of_le (lt_pow_nd 10 V (by decide)) (Nat.pow_le_pow_right (by decide) (nd_decN V))
  | k + 1, hk => by
    have hk2 : k < (dec V).size := by rw [dec_size]; omega
    have hg := dec_get V k hk2
    show digV (dec V).data.toList k * 10 + (((dec V).data.toList.getD k 0).toNat - 48) = _
    rw [dec_digs V k (by omega), toList_getD _ _ hk2, hg, show decN V - k = (decN V - (k + 1)) + 1 by omega, show decN V - 1 - k = decN V - (k + 1) by omega]
    unfold dg
    rw [Nat.pow_succ, ← Nat.div_div_eq_div_mul]
    omega
theorem dec_num (V : Nat) (h : decN V ≤ 2000) : IsNum (dec V) ∧ numV (dec V) = V := by
  have hs := dec_size V
  have h1 := decN_one V
  refine ⟨⟨by omega, by omega, fun k hk => ?_, fun hk => ?_⟩, ?_⟩
  · have := dec_get V k hk
    have := dg10_lt V (decN V - 1 - k)
    omega
  · have e := dec_get V 0 (by omega)
    have h5 : 1 < decN V := by rw [← hs]; exact hk
    have hn : nd 10 V = decN V := by unfold decN at h5 ⊢; omega
    have hV : 0 < V := by
      rcases Nat.eq_zero_or_pos V with h0 | h0
      · rw [h0, nd_zero] at hn; have := decN_one 0; omega
      · exact h0
    have ht := dg_top 10 V (by decide) hV
    rw [hn] at ht
    have e2 : (dec V)[0].toNat = 48 + dg 10 V (decN V - 1) := e
    omega
  · unfold numV
    rw [hs, dec_digs V _ (Nat.le_refl _), Nat.sub_self, Nat.pow_zero, Nat.div_one]
theorem idx_none : ∀ l : List UInt8, (∀ b ∈ l, b ≠ 47) → Lib.indexByte l 47 = -1
  | [], _ => rfl
  | b :: l, h => by
    unfold Lib.indexByte
    rw [if_neg (by simpa using h b (by simp)), idx_none l (fun c hc => h c (by simp [hc]))]
    rfl
theorem idx_at : ∀ (a l : List UInt8), (∀ b ∈ a, b ≠ 47) → Lib.indexByte (a ++ 47 :: l) 47 = (a.length : Int)
  | [], l, _ => by
    show Lib.indexByte (47 :: l) 47 = 0
    unfold Lib.indexByte
    rw [if_pos (by rfl)]
  | b :: a, l, h => by
    show Lib.indexByte (b :: (a ++ 47 :: l)) 47 = _
    unfold Lib.indexByte
    rw [if_neg (by simpa using h b (by simp)), idx_at a l (fun c hc => h c (by simp [hc])), if_neg (by simp <;> omega)]
    simp
theorem dec_noslash (V : Nat) : ∀ b ∈ (dec V).data.toList, b ≠ 47 := fun b hb => by
  obtain ⟨i, hi, rfl⟩ := List.getElem_of_mem hb
  have hi2 : i < (dec V).size := by simpa using hi
  have := dec_get V i hi2
  intro e
  have e2 : (dec V)[i] = 47 := e
  rw [e2] at this
  have h47 : (47 : UInt8).toNat = 47 := rfl
  omega
theorem slash_dec (V : Nat) : slash (dec V) = -1 := idx_none _ (dec_noslash V)
theorem slash_frac (V D : Nat) : slash (dec V ++ ⟨#[47]⟩ ++ dec D) = ((dec V).size : Int) := by
  unfold slash
  have e : (dec V ++ ⟨#[47]⟩ ++ dec D).data.toList = (dec V).data.toList ++ 47 :: (dec D).data.toList := by simp
  rw [e, idx_at _ _ (dec_noslash V)]
  simp
end Cs
end
end
section
section
set_option linter.unusedSimpArgs false
set_option linter.unusedVariables false
open Go Go.RowKit Cs
namespace Go.Proofs.YtgnobohfnhpkdaaGreatDoor
theorem toList_inj {a b : ByteArray} (h : a.toList = b.toList) : a = b := by
  have h2 : a.data.toList = b.data.toList := by rwa [ByteArray.toList_eq, ByteArray.toList_eq] at h
  exact ByteArray.ext (Array.toList_inj.1 h2)
end Go.Proofs.YtgnobohfnhpkdaaGreatDoor
end
section
set_option linter.unusedSimpArgs false
set_option linter.unusedVariables false
open Go Go.RowKit Cs
namespace Go.Proofs.YtgnobohfnhpkdaaGreatDoor
open Classical in
noncomputable def rdO (s : ByteArray) : Option Rat :=
  if slash s = -1 then (if IsNum s then some ((numV s : Nat) : Rat) else none)
  else if IsNum (cutN s) ∧ IsNum (cutD s) ∧ 0 < numV (cutD s) ∧ qtext (qq (numV (cutN s)) (numV (cutD s))) = s then some (qq (numV (cutN s)) (numV (cutD s))) else none
theorem qn_qq_le (n d : Nat) : qn (qq n d) ≤ n := by rw [qn_qq]; exact Nat.div_le_self _ _
theorem den_qq_le (n d : Nat) (h : 0 < d) : (qq n d).den ≤ d := by rw [den_qq, qd_of h]; exact Nat.div_le_self _ _
theorem qtext_nat (V : Nat) : qtext (V : Rat) = dec V := by unfold qtext; rw [if_pos (show ((V : Nat) : Rat).den = 1 from rfl), qn_of_nat]
theorem n8_one' : n8 1 ≤ 1 := (n8_le _ _).2 (by decide)
theorem rdO_spec {s : ByteArray} {q : Rat} (h : rdO s = some q) : 0 ≤ q ∧ s = qtext q ∧ n8 (qn q) ≤ 2000 ∧ n8 q.den ≤ 2000 := by
  unfold rdO at h
  split at h
  · split at h
    · rename_i hn
      injection h with h
      subst h
      refine ⟨Rat.natCast_nonneg, ?_, ?_, ?_⟩
      · rw [qtext_nat]; exact num_dec hn
      · exact numV_n8 hn
      · have := n8_one'
        show n8 1 ≤ 2000
        omega
    · cases h
  · split at h
    · rename_i hn
      injection h with h
      subst h
      exact ⟨qq_nonneg _ _, hn.2.2.2.symm, Nat.le_trans (n8_mono (qn_qq_le _ _)) (numV_n8 hn.1), Nat.le_trans (n8_mono (den_qq_le _ _ hn.2.2.1)) (numV_n8 hn.2.1)⟩
    · cases h
theorem frac_cut (V D : Nat) : cutN (dec V ++ ⟨#[47]⟩ ++ dec D) = dec V ∧ cutD (dec V ++ ⟨#[47]⟩ ++ dec D) = dec D := by
  have h := slash_frac V D
  have h1 := decN_one V
  have hz := dec_size V
  constructor
  · unfold cutN
    rw [h, if_neg (by omega), Int.toNat_natCast]
    refine ByteArray.ext ?_
    refine Array.toList_inj.1 ?_
    simp [ByteArray.data_extract, ← ByteArray.size_data]
  · unfold cutD
    rw [h, if_neg (by omega), Int.toNat_natCast]
    refine ByteArray.ext ?_
    refine Array.toList_inj.1 ?_
    simp [ByteArray.data_extract, ← ByteArray.size_data]
theorem rdO_text {q : Rat} (h : 0 ≤ q) (h1 : decN (qn q) ≤ 2000) (h2 : decN q.den ≤ 2000) : rdO (qtext q) = some q := by
  have a1 := dec_num _ h1
  have a2 := dec_num _ h2
  unfold qtext
  by_cases hd : q.den = 1
  · rw [if_pos hd]
    unfold rdO
    rw [if_pos (slash_dec _), if_pos a1.1, a1.2]
    congr 1
    have := qq_can h
    rw [hd, qq_one] at this
    exact this
  · rw [if_neg hd]
    unfold rdO
    obtain ⟨c1, c2⟩ := frac_cut (qn q) q.den
    have hs : slash (dec (qn q) ++ ⟨#[47]⟩ ++ dec q.den) ≠ -1 := by rw [slash_frac]; omega
    rw [if_neg hs, c1, c2, a1.2, a2.2, qq_can h, if_pos]
    refine ⟨a1.1, a2.1, q.den_pos, ?_⟩
    unfold qtext
    rw [if_neg hd]
end Go.Proofs.YtgnobohfnhpkdaaGreatDoor
end
end
