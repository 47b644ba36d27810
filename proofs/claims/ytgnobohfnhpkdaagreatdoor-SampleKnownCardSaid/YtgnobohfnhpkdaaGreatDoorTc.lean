/- The walk of a fraction's Text. The walks of strings.Cut at a slash, and of rat.Read. Plain facts on texts of numbers: what Read lets in is the decimal form. -/
import Derived.Test.YtgnobohfnhpkdaaGreatDoorDl
import Derived.Test.YtgnobohfnhpkdaaGreatDoorN3
import Derived.Test.YtgnobohfnhpkdaaGreatDoorTa
import Derived.Lib.Bytealg
import Derived.Lib.Strings
import Derived.Laws.Externs
import Derived.Laws.Strings3
import Derived.BigRegion
/-! The walk of a fraction's Text. -/
section
set_option linter.unusedSimpArgs false
set_option linter.unusedVariables false
open Go Go.RowKit Cs
namespace Go.Proofs.YtgnobohfnhpkdaaGreatDoor
/-- The text of a fraction in memory. -/
def ptext (n d : Nat) : ByteArray := if qd d = 1 then dec n else dec n ++ ⟨#[47]⟩ ++ dec d
set_option maxRecDepth 100000 in
set_option maxHeartbeats 1000000 in
/-- Text. -/
theorem qtext_any (w : World) (n d : Nat) (hn : n8 n ≤ 100000) (hd : n8 d ≤ 100000) : Calls Tryz.prog 73 #[ratV n d] w fun e w' => e = .returned (.string (ptext n d)) ∧ Below w.heap.size w w' := by
  have hde := fun W => den_any W n d (by omega)
  have h1 := n8_qd d hd
  have hcm := fun W => cmp_any W (qd d) 1 (by omega) (by have := n8_64 (n := 1) (by decide); omega)
  have htn := fun W => text_any W n (by omega)
  have htd := fun W => text_any W d (by omega)
  have hq := ratNew w n d 74 _ rfl
  have hbel := (Below.refl w.heap.size w).alloc (Nat.le_refl _) (.cells #[.string (natB n), .string (natB d)] 74)
  have hcz : (cmpN (qd d) 1 == 0) = decide (qd d = 1) := by
    have : (cmpN (qd d) 1 = 0) ↔ qd d = 1 := by
      unfold cmpN
      split
      · constructor <;> intro h <;> omega
      · split
        · simp [*]
        · simp [*]
    by_cases h : qd d = 1
    · rw [decide_eq_true h]; simpa using this.2 h
    · rw [decide_eq_false h]; simpa using fun h2 => h (this.1 h2)
  have hpt : ptext n d = if qd d = 1 then dec n else dec n ++ ⟨#[47]⟩ ++ dec d := rfl
  rw [hpt]
  clear hpt
  have hsn : (dec n).size ≤ 300000 := by rw [dec_size]; have := nd10_le n _ hn; unfold decN; omega
  have hsd : (dec d).size ≤ 300000 := by rw [dec_size]; have := nd10_le d _ hd; unfold decN; omega
  have hs1 : ∀ W : World, (Op.stringOp .add (dec n) ⟨#[47]⟩).run Tryz.prog W = .ok (.string (dec n ++ ⟨#[47]⟩)) W := fun W => run_string_add_sum W _ _ (by have : (ByteArray.mk #[47]).size = 1 := rfl; omega)
  have hs2 : ∀ W : World, (Op.stringOp .add (dec n ++ ⟨#[47]⟩) (dec d)).run Tryz.prog W = .ok (.string (dec n ++ ⟨#[47]⟩ ++ dec d)) W := fun W => run_string_add_sum W _ _ (by
    rw [ByteArray.size_append]
    have : (ByteArray.mk #[47]).size = 1 := rfl
    omega)
  clear hsn hsd
  generalize cmpN (qd d) 1 = M at *
  generalize qd d = Q at *
  generalize dec n = DN at *
  generalize dec d = DD at *
  have HDE := Lib.hid hde
  have HCM := Lib.hid hcm
  have HTN := Lib.hid htn
  have HTD := Lib.hid htd
  clear hde hcm htn htd h1 hn hd
  have HIF : Hid ((if Q = 1 then DN else DN ++ ⟨#[47]⟩ ++ DD) = (if (M == 0) = true then DN else DN ++ ⟨#[47]⟩ ++ DD)) := Lib.hid (by rw [hcz]; by_cases h : Q = 1 <;> simp [h])
  rw [HIF.out]
  clear hcz HIF
  rcases Bool.eq_false_or_eq_true (M == 0) with hM | hM
  · rw [if_pos hM]
    go_enter Tryz.func73, Tryz.ntmps73
    go_wp2_with (first
      | (go_at_call 78
         (with_reducible refine (HDE.out _).mono ?_)
         rintro e w1 ⟨rfl, hb1⟩
         replace hq := rowBelow hq hb1
         have hz1 := hb1.size
         simp at hz1
         replace hbel := hbel.trans (hb1.mono (by simp))
         clear hb1)
      | (go_at_call 55
         (with_reducible refine (of_one _).mono ?_)
         rintro e w2 ⟨rfl, hb2⟩
         replace hq := rowBelow hq hb2
         have hz2 := hb2.size
         replace hbel := hbel.trans (hb2.mono (by omega))
         clear hb2)
      | (go_at_call 30
         (with_reducible refine (HCM.out _).mono ?_)
         rintro e w3 ⟨rfl, hb3⟩
         replace hq := rowBelow hq hb3
         have hz3 := hb3.size
         replace hbel := hbel.trans (hb3.mono (by omega))
         obtain ⟨c0, c1⟩ := ratCells hq
         clear hb3)
      | (go_at_call 119
         (with_reducible refine (HTN.out _).mono ?_)
         rintro e w4 ⟨rfl, hb4⟩
         replace hbel := hbel.trans (hb4.mono (by omega))))
    go_ret
    exact ⟨rfl, hbel⟩
  · rw [if_neg (by rw [hM]; decide)]
    go_enter Tryz.func73, Tryz.ntmps73
    go_wp2_with (first
      | (go_at_call 78
         (with_reducible refine (HDE.out _).mono ?_)
         rintro e w1 ⟨rfl, hb1⟩
         replace hq := rowBelow hq hb1
         have hz1 := hb1.size
         simp at hz1
         replace hbel := hbel.trans (hb1.mono (by simp))
         clear hb1)
      | (go_at_call 55
         (with_reducible refine (of_one _).mono ?_)
         rintro e w2 ⟨rfl, hb2⟩
         replace hq := rowBelow hq hb2
         have hz2 := hb2.size
         replace hbel := hbel.trans (hb2.mono (by omega))
         clear hb2)
      | (go_at_call 30
         (with_reducible refine (HCM.out _).mono ?_)
         rintro e w3 ⟨rfl, hb3⟩
         replace hq := rowBelow hq hb3
         have hz3 := hb3.size
         replace hbel := hbel.trans (hb3.mono (by omega))
         obtain ⟨c0, c1⟩ := ratCells hq
         clear hb3)
      | (go_at_call 119
         (with_reducible refine (HTN.out _).mono ?_)
         rintro e w4 ⟨rfl, hb4⟩
         replace hbel := hbel.trans (hb4.mono (by omega))))
    replace hq := hq.drew
    have hbd : Below w.heap.size w w3.drew := hbel.drew
    obtain ⟨c0, c1⟩ := ratCells hq
    go_region_held3 (fun w' => w'.cell? ⟨w.heap.size, 0, none⟩ = some (.string (natB n)) ∧ w'.cell? ⟨w.heap.size, 1, none⟩ = some (.string (natB d)))
      (first | exact ⟨c0, c1⟩ | go_keep)
      (first
        | (go_simp
           go_at_call 119
           (with_reducible first | refine (HTN.out _).mono ?_ | refine (HTD.out _).mono ?_)
           rintro e w9 ⟨rfl, hb9⟩
           replace hbd := hbd.trans (hb9.mono (by have := hbd.size; omega))
           replace hq := rowBelow hq hb9
           obtain ⟨c0, c1⟩ := ratCells hq))
    all_goals
      try go_wp2
      go_ret
      exact ⟨rfl, hbd⟩
end Go.Proofs.YtgnobohfnhpkdaaGreatDoor
end
/-! The walks of strings.Cut at a slash, and of rat.Read. -/
section
set_option linter.unusedSimpArgs false
set_option linter.unusedVariables false
open Go Go.RowKit Cs
namespace Cs
/-- Where the first slash is; -1: nowhere. -/
def slash (s : ByteArray) : Int := Lib.indexByte s.data.toList 47
theorem idx_cases : ∀ (l : List UInt8), Lib.indexByte l 47 = -1 ∨ ∃ i : Nat, Lib.indexByte l 47 = (i : Int) ∧ i < l.length ∧ l[i]? = some 47
  | [] => .inl rfl
  | b :: l => by
    unfold Lib.indexByte
    by_cases h : b = 47
    · subst h
      rw [if_pos (by rfl)]
      exact .inr ⟨0, rfl, by simp, rfl⟩
    · rw [if_neg (by simpa using h)]
      rcases idx_cases l with h1 | ⟨i, h1, h2, h3⟩
      · rw [h1]; exact .inl rfl
      · rw [h1, if_neg (by simp <;> omega)]
        exact .inr ⟨i + 1, by simp, by simp <;> omega, by simpa using h3⟩
theorem slash_cases (s : ByteArray) : slash s = -1 ∨ ∃ i : Nat, slash s = (i : Int) ∧ i < s.size := by
  rcases idx_cases s.data.toList with h | ⟨i, h1, h2, _⟩
  · exact .inl h
  · exact .inr ⟨i, h1, by simpa using h2⟩
end Cs
namespace Go.Proofs.YtgnobohfnhpkdaaGreatDoor
set_option maxRecDepth 100000 in
set_option maxHeartbeats 1000000 in
theorem idxByte_any (w : World) (s : ByteArray) : Calls Tryz.prog 153 #[.string s, .int .u8 47] w fun e w' => e = .returned (.int .i64 (slash s)) ∧ w = w' := by
  go_enter Tryz.func153, Tryz.ntmps153
  go_wp2
  rw [run_callFunc_extern Tryz.func159 (by kernel_rfl) (by kernel_rfl) (by kernel_rfl) (e := Extern.BytealgIndexByte.indexByte) (by kernel_rfl), Lib.run_indexByteString]
  simp only [Result.andThen]
  rw [Oper.upon_value]
  go_wp2
  go_ret
  exact ⟨rfl, rfl⟩
set_option maxRecDepth 100000 in
set_option maxHeartbeats 1000000 in
theorem idx_any (w : World) (s : ByteArray) : Calls Tryz.prog 138 #[.string s, .string ⟨#[47]⟩] w fun e w' => e = .returned (.int .i64 (slash s)) ∧ w = w' := by
  have hix := fun W => idxByte_any W s
  by_cases h : s.toList = [47]
  · have hs : slash s = 0 := by
      unfold slash
      rw [show s.data.toList = [47] by rw [← h, ByteArray.toList_eq]]
      rfl
    rw [hs]
    have h1 : ([47] == s.toList) = true := by rw [h]; rfl
    clear hs h
    go_enter Tryz.func138, Tryz.ntmps138
    go_wp2_with fail
    go_ret
    exact ⟨rfl, rfl⟩
  · have h1 : ([47] == s.toList) = false := beq_eq_false_iff_ne.2 (fun e => h e.symm)
    have HIX := Lib.hid hix
    clear hix h
    generalize slash s = x at *
    go_enter Tryz.func138, Tryz.ntmps138
    go_wp2_with fail
    refine (HIX.out _).mono ?_
    rintro e w' ⟨rfl, rfl⟩
    go_wp2_with fail
    go_ret
    exact ⟨rfl, rfl⟩
/-- What is ahead of the first slash and behind it. -/
def cutN (s : ByteArray) : ByteArray := if slash s = -1 then s else s.extract 0 (slash s).toNat
def cutD (s : ByteArray) : ByteArray := if slash s = -1 then ⟨#[]⟩ else s.extract ((slash s).toNat + 1) s.size
set_option maxRecDepth 100000 in
set_option maxHeartbeats 1000000 in
theorem cut2_any (w : World) (s : ByteArray) (hs : s.size ≤ maxLen) : Calls Tryz.prog 116 #[.string s, .string ⟨#[47]⟩] w fun e w' => e = .returned (.tuple #[.string (cutN s), .string (cutD s), .bool (decide (slash s ≠ -1))]) ∧ Below w.heap.size w w' := by
  unfold maxLen at hs
  have hix := fun W => idx_any W s
  unfold cutN cutD
  rcases slash_cases s with h | ⟨i, h, hi⟩
  · rw [if_pos h, if_pos h, decide_eq_false (by simp [h])]
    rw [h] at hix
    have HIX := Lib.hid hix
    clear hix h
    go_enter Tryz.func116, Tryz.ntmps116
    go_wp2_with (go_at_call 138; (with_reducible refine (HIX.out _).mono ?_); rintro e w' ⟨rfl, rfl⟩)
    go_ret3
    exact ⟨rfl, Below.refl _ _⟩
  · rw [if_neg (by omega), if_neg (by omega), decide_eq_true (by omega)]
    rw [h] at hix ⊢
    rw [Int.toNat_natCast]
    have HIX := Lib.hid hix
    clear hix h
    have c1 : (0 : Int) ≤ (i : Int) := by omega
    have c2 : (i : Int) ≤ (s.size : Int) := by omega
    have c3 : (0 : Int) ≤ (i : Int) + 1 := by omega
    have c4 : (i : Int) + 1 ≤ (s.size : Int) := by omega
    have c5 : decide ((0 : Int) ≤ (i : Int)) = true := decide_eq_true c1
    go_enter Tryz.func116, Tryz.ntmps116
    go_wp2_with (go_at_call 138; (with_reducible refine (HIX.out _).mono ?_); rintro e w' ⟨rfl, rfl⟩)
    go_region
    all_goals
      go_wp2_with fail
      go_ret3
      exact ⟨rfl, (Below.refl _ _).drew⟩
set_option maxRecDepth 100000 in
theorem scut_any (w : World) (s : ByteArray) (hs : s.size ≤ maxLen) : Calls Tryz.prog 70 #[.string s, .string ⟨#[47]⟩] w fun e w' => e = .returned (.tuple #[.string (cutN s), .string (cutD s), .bool (decide (slash s ≠ -1))]) ∧ Below w.heap.size w w' := by
  have hct := fun W => cut2_any W s hs
  generalize cutN s = a at *
  generalize cutD s = b at *
  generalize decide (slash s ≠ -1) = c at *
  have HCT := Lib.hid hct
  clear hct
  go_enter Tryz.func70, Tryz.ntmps70
  go_wp2_with (go_at_call 116; (with_reducible refine (HCT.out _).mono ?_); rintro e w' ⟨rfl, hb⟩)
  go_ret3
  exact ⟨rfl, hb⟩
end Go.Proofs.YtgnobohfnhpkdaaGreatDoor
end
/-! Plain facts on texts of numbers: what Read lets in is the decimal form. -/
section
set_option linter.unusedSimpArgs false
set_option linter.unusedVariables false
open Go Go.RowKit Cs
namespace Cs
theorem dg_snoc0 (x d : Nat) (h : d < 10) : dg 10 (x * 10 + d) 0 = d := by unfold dg; simp; omega
theorem dg_snoc1 (x d j : Nat) (h : d < 10) : dg 10 (x * 10 + d) (j + 1) = dg 10 x j := by
  unfold dg
  rw [Nat.pow_succ, Nat.mul_comm (10 ^ j), ← Nat.div_div_eq_div_mul]
  congr 2
  omega
/-- A digit of a text. -/
def sdg (l : List UInt8) (i : Nat) : Nat := (l.getD i 0).toNat - 48
theorem digV_dg (l : List UInt8) (h : ∀ i, (l.getD i 0).toNat ≤ 57) : ∀ k j, j < k → dg 10 (digV l k) j = sdg l (k - 1 - j)
  | 0, j, hj => by omega
  | k + 1, j, hj => by
    have hd : sdg l k < 10 := by unfold sdg; have := h k; omega
    show dg 10 (digV l k * 10 + sdg l k) j = _
    cases j with
    | zero => rw [dg_snoc0 _ _ hd]; simp
    | succ j =>
      rw [dg_snoc1 _ _ _ hd, digV_dg l h k j (by omega)]
      congr 1
      omega
theorem digV_ge (l : List UInt8) (h0 : 1 ≤ sdg l 0) : ∀ k, 10 ^ k ≤ digV l (k + 1)
  | 0 => by show 1 ≤ digV l 0 * 10 + sdg l 0; omega
  | k + 1 => by
    have := digV_ge l h0 k
    show 10 ^ (k + 1) ≤ digV l (k + 1) * 10 + _
    rw [Nat.pow_succ]
    omega
theorem toList_getD (s : ByteArray) (i : Nat) (h : i < s.size) : s.data.toList.getD i 0 = s[i] := by
  rw [List.getD_eq_getElem?_getD, List.getElem?_eq_getElem (by simpa using h)]
  rfl
theorem getD_small (s : ByteArray) (h : allDig s) (i : Nat) : (s.data.toList.getD i 0).toNat ≤ 57 := by
  rcases Nat.lt_or_ge i s.size with hi | hi
  · rw [toList_getD s i hi]; exact (h i hi).2
  · rw [List.getD_eq_getElem?_getD, List.getElem?_eq_none (by simpa using hi)]; decide
/-- The value of a text. -/
def numV (s : ByteArray) : Nat := digV s.data.toList s.size
theorem numV_lt {s : ByteArray} (h : IsNum s) : numV s < 10 ^ s.size := digV_lt _ (getD_small s h.dig) _
theorem numV_n8 {s : ByteArray} (h : IsNum s) : n8 (numV s) ≤ 2000 := by
  refine Nat.le_trans ((n8_le s.size _).2 (Nat.lt_of_lt_of_le (numV_lt h) (Nat.pow_le_pow_left (by decide) _))) h.few
theorem numV_decN {s : ByteArray} (h : IsNum s) : decN (numV s) = s.size := by
  have hp := h.pos
  by_cases h1 : s.size = 1
  · have := numV_lt h
    rw [h1] at this ⊢
    unfold decN
    have : nd 10 (numV s) ≤ 1 := (nd_le_iff 10 (by decide) 1 _).2 this
    omega
  · have hl := h.led (by omega)
    have hd := h.dig 0 hp
    have h0 : 1 ≤ sdg s.data.toList 0 := by
      unfold sdg
      rw [toList_getD s 0 hp]
      omega
    obtain ⟨m, hm⟩ : ∃ m, s.size = m + 1 := ⟨s.size - 1, by omega⟩
    have h2 := digV_ge _ h0 m
    have h3 := numV_lt h
    have h4 : nd 10 (numV s) = s.size := nd_eq 10 (by decide) _ _ h3 (.inr (by
      unfold numV
      rw [hm]
      exact h2))
    unfold decN
    omega
/-- What Read lets in is the decimal form of its value. -/
theorem num_dec {s : ByteArray} (h : IsNum s) : s = dec (numV s) := by
  have hs : (dec (numV s)).size = s.size := by rw [dec_size, numV_decN h]
  refine ByteArray.ext_getElem hs.symm fun i h1 h2 => ?_
  have e := dec_get (numV s) i h2
  rw [numV_decN h] at e
  have hd : dg 10 (numV s) (s.size - 1 - i) = sdg s.data.toList (s.size - 1 - (s.size - 1 - i)) := digV_dg s.data.toList (getD_small s h.dig) s.size (s.size - 1 - i) (by omega)
  have hi := h.dig i h1
  rw [hd] at e
  unfold sdg at e
  rw [show s.size - 1 - (s.size - 1 - i) = i by omega, toList_getD s i h1] at e
  refine UInt8.toNat_inj.1 ?_
  omega
theorem dec_digs (V : Nat) : ∀ k, k ≤ decN V → digV (dec V).data.toList k = V / 10 ^ (decN V - k)
  | 0, _ => by
    show 0 = _
    rw [Nat.sub_zero, Nat.div_eq_of_lt]
    exact Nat.lt_of_lt_of_le (lt_pow_nd 10 V (by decide)) (Nat.pow_le_pow_right (by decide) (nd_decN V))
  | k + 1, hk => by
    have hk2 : k < (dec V).size := by rw [dec_size]; omega
    have hg := dec_get V k hk2
    show digV (dec V).data.toList k * 10 + (((dec V).data.toList.getD k 0).toNat - 48) = _
    rw [dec_digs V k (by omega), toList_getD _ _ hk2, hg, show decN V - k = (decN V - (k + 1)) + 1 by omega, show decN V - 1 - k = decN V - (k + 1) by omega]
    unfold dg
    rw [Nat.pow_succ, ← Nat.div_div_eq_div_mul]
    omega
theorem dec_num (V : Nat) (h : decN V ≤ 2000) : IsNum (dec V) ∧ numV (dec V) = V := by
  have hs := dec_size V
  have h1 := decN_one V
  refine ⟨⟨by omega, by omega, fun k hk => ?_, fun hk => ?_⟩, ?_⟩
  · have := dec_get V k hk
    have := dg10_lt V (decN V - 1 - k)
    omega
  · have e := dec_get V 0 (by omega)
    have h5 : 1 < decN V := by rw [← hs]; exact hk
    have hn : nd 10 V = decN V := by unfold decN at h5 ⊢; omega
    have hV : 0 < V := by
      rcases Nat.eq_zero_or_pos V with h0 | h0
      · rw [h0, nd_zero] at hn; have := decN_one 0; omega
      · exact h0
    have ht := dg_top 10 V (by decide) hV
    rw [hn] at ht
    have e2 : (dec V)[0].toNat = 48 + dg 10 V (decN V - 1) := e
    omega
  · unfold numV
    rw [hs, dec_digs V _ (Nat.le_refl _), Nat.sub_self, Nat.pow_zero, Nat.div_one]
theorem idx_none : ∀ l : List UInt8, (∀ b ∈ l, b ≠ 47) → Lib.indexByte l 47 = -1
  | [], _ => rfl
  | b :: l, h => by
    unfold Lib.indexByte
    rw [if_neg (by simpa using h b (by simp)), idx_none l (fun c hc => h c (by simp [hc]))]
    rfl
theorem idx_at : ∀ (a l : List UInt8), (∀ b ∈ a, b ≠ 47) → Lib.indexByte (a ++ 47 :: l) 47 = (a.length : Int)
  | [], l, _ => by
    show Lib.indexByte (47 :: l) 47 = 0
    unfold Lib.indexByte
    rw [if_pos (by rfl)]
  | b :: a, l, h => by
    show Lib.indexByte (b :: (a ++ 47 :: l)) 47 = _
    unfold Lib.indexByte
    rw [if_neg (by simpa using h b (by simp)), idx_at a l (fun c hc => h c (by simp [hc])), if_neg (by simp <;> omega)]
    simp
theorem dec_noslash (V : Nat) : ∀ b ∈ (dec V).data.toList, b ≠ 47 := fun b hb => by
  obtain ⟨i, hi, rfl⟩ := List.getElem_of_mem hb
  have hi2 : i < (dec V).size := by simpa using hi
  have := dec_get V i hi2
  intro e
  have e2 : (dec V)[i] = 47 := e
  rw [e2] at this
  have h47 : (47 : UInt8).toNat = 47 := rfl
  omega
theorem slash_dec (V : Nat) : slash (dec V) = -1 := idx_none _ (dec_noslash V)
theorem slash_frac (V D : Nat) : slash (dec V ++ ⟨#[47]⟩ ++ dec D) = ((dec V).size : Int) := by
  unfold slash
  have e : (dec V ++ ⟨#[47]⟩ ++ dec D).data.toList = (dec V).data.toList ++ 47 :: (dec D).data.toList := by simp
  rw [e, idx_at _ _ (dec_noslash V)]
  simp
end Cs
end
