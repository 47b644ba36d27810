/- The number of ones of a word, as plain data. The walks of OnesCount64 and Uint. -/
import Derived.Test.YtemgfhdgpkmmaaaDoorQ2
import Derived.Test.YtemgfhdgpkmmaaaDoorN1
set_option linter.unusedSimpArgs false
set_option linter.unusedVariables false
open Go Go.RowKit Cs
namespace Cs
/-- A number of k bytes c. -/
def rep (c : Nat) : Nat → Nat
  | 0 => 0
  | k + 1 => c + 256 * rep c k
theorem and_byte (b y c m : Nat) (hb : b < 256) (hc : c < 256) : (b + 256 * y) &&& (c + 256 * m) = (b &&& c) + 256 * (y &&& m) := by
  apply Nat.eq_of_testBit_eq
  intro i
  have hbc : b &&& c < 256 := Nat.lt_of_le_of_lt Nat.and_le_left hb
  have e : ∀ a z, a < 256 → (a + 256 * z).testBit i = if i < 8 then a.testBit i else z.testBit (i - 8) := fun a z ha => by
    rw [Nat.add_comm]; exact Nat.testBit_two_pow_mul_add z (i := 8) ha i
  rw [Nat.testBit_and, e b y hb, e c m hc, e _ _ hbc]
  split
  · rw [Nat.testBit_and]
  · rw [Nat.testBit_and]
def pf1 (m x : Nat) : Nat := (x / 2 &&& m) + (x &&& m)
def pf2 (m x : Nat) : Nat := (x / 4 &&& m) + (x &&& m)
def pf3 (m x : Nat) : Nat := (x / 16 + x) &&& m
def g1 (b : Nat) : Nat := pf1 85 b
def g2 (b : Nat) : Nat := pf2 51 b
def g3 (b : Nat) : Nat := pf3 15 b
theorem g1_all : ∀ b : Fin 256, g1 b.val < 256 ∧ g2 (g1 b.val) < 256 ∧ g2 (g1 b.val) % 16 ≤ 4 ∧ g2 (g1 b.val) ≤ 68 ∧ g3 (g2 (g1 b.val)) = pcn 8 b.val := by decide +kernel
theorem and85 : ∀ b : Fin 128, (b.val + 128 &&& 85) = (b.val &&& 85) := by decide +kernel
theorem and51 : ∀ b : Fin 64, ∀ c : Fin 4, (b.val + 64 * c.val &&& 51) = (b.val &&& 51) := by decide +kernel
theorem and15 : ∀ b : Fin 69, ∀ c : Fin 5, (b.val / 16 + 16 * c.val + b.val &&& 15) = (b.val / 16 + b.val &&& 15) := by decide +kernel
theorem pf1_step (b y m : Nat) (hb : b < 256) : pf1 (85 + 256 * m) (b + 256 * y) = g1 b + 256 * pf1 m y := by
  unfold g1 pf1
  have e : (b + 256 * y) / 2 = (b / 2 + 128 * (y % 2)) + 256 * (y / 2) := by omega
  rw [e, and_byte _ _ _ _ (by omega) (by decide), and_byte _ _ _ _ hb (by decide)]
  have h : (b / 2 + 128 * (y % 2) &&& 85) = (b / 2 &&& 85) := by
    rcases Nat.mod_two_eq_zero_or_one y with h | h
    · rw [h]; rfl
    · rw [h]; exact and85 ⟨b / 2, by omega⟩
  rw [h]; omega
theorem pf2_step (b y m : Nat) (hb : b < 256) : pf2 (51 + 256 * m) (b + 256 * y) = g2 b + 256 * pf2 m y := by
  unfold g2 pf2
  have e : (b + 256 * y) / 4 = (b / 4 + 64 * (y % 4)) + 256 * (y / 4) := by omega
  rw [e, and_byte _ _ _ _ (by omega) (by decide), and_byte _ _ _ _ hb (by decide)]
  have h : (b / 4 + 64 * (y % 4) &&& 51) = (b / 4 &&& 51) := and51 ⟨b / 4, by omega⟩ ⟨y % 4, by omega⟩
  rw [h]; omega
theorem pf3_step (b y m : Nat) (hb : b ≤ 68) (hy : y % 16 ≤ 4) : pf3 (15 + 256 * m) (b + 256 * y) = g3 b + 256 * pf3 m y := by
  unfold g3 pf3
  have e : (b + 256 * y) / 16 + (b + 256 * y) = (b / 16 + 16 * (y % 16) + b) + 256 * (y / 16 + y) := by omega
  rw [e, and_byte _ _ _ _ (by omega) (by decide)]
  have h := and15 ⟨b, by omega⟩ ⟨y % 16, by omega⟩
  simp only at h
  rw [h]
/-- The bytes' numbers of ones. -/
def pb : Nat → Nat → Nat
  | 0, _ => 0
  | k + 1, x => pcn 8 (x % 256) + 256 * pb k (x / 256)
theorem pf2_low (m x : Nat) (k : Nat) : pf2 (rep 51 k) (pf1 (rep 85 k) x) % 16 ≤ 4 := by
  cases k with
  | zero => simp [rep, pf2, pf1]
  | succ k =>
    have hx : x = x % 256 + 256 * (x / 256) := by omega
    obtain ⟨h1, h2, h3, h4, h5⟩ := g1_all ⟨x % 256, by omega⟩
    rw [hx]
    show pf2 (51 + 256 * rep 51 k) (pf1 (85 + 256 * rep 85 k) _) % 16 ≤ 4
    rw [pf1_step _ _ _ (by omega), pf2_step _ _ _ h1]
    have h3' : g2 (g1 (x % 256)) % 16 ≤ 4 := h3
    omega
theorem pf3_all : ∀ (k x : Nat), pf3 (rep 15 k) (pf2 (rep 51 k) (pf1 (rep 85 k) x)) = pb k x
  | 0, x => by simp [rep, pf3, pb]
  | k + 1, x => by
    have hx : x = x % 256 + 256 * (x / 256) := by omega
    obtain ⟨h1, h2, h3, h4, h5⟩ := g1_all ⟨x % 256, by omega⟩
    have ih := pf3_all k (x / 256)
    have hl := pf2_low 0 (x / 256) k
    have e : pf3 (rep 15 (k + 1)) (pf2 (rep 51 (k + 1)) (pf1 (rep 85 (k + 1)) x)) = g3 (g2 (g1 (x % 256))) + 256 * pf3 (rep 15 k) (pf2 (rep 51 k) (pf1 (rep 85 k) (x / 256))) := by
      conv => lhs; rw [hx]
      show pf3 (15 + 256 * rep 15 k) (pf2 (51 + 256 * rep 51 k) (pf1 (85 + 256 * rep 85 k) _)) = _
      rw [pf1_step _ _ _ (by omega), pf2_step _ _ _ h1, pf3_step _ _ _ h4 hl]
    rw [e, ih, h5]; rfl
theorem pcn_byte (k b y : Nat) (hb : b < 256) : pcn (8 + k) (b + 256 * y) = pcn 8 b + pcn k y := by
  have e : ∀ i, (b + 256 * y).testBit i = if i < 8 then b.testBit i else y.testBit (i - 8) := fun i => by
    rw [Nat.add_comm]; exact Nat.testBit_two_pow_mul_add y (i := 8) hb i
  unfold pcn
  refine (sumTo_more CN _ 8 k).trans ?_
  show _ + _ = _ + _
  congr 1
  · exact sN_congr _ _ _ fun i hi => by rw [e, if_pos hi]
  · exact sN_congr _ _ _ fun i hi => by
      have e8 : (b + 256 * y).testBit (8 + i) = y.testBit i := by rw [e (8 + i), if_neg (by omega), show 8 + i - 8 = i by omega]
      rw [e8]
theorem pcn8_le (b : Nat) : pcn 8 b ≤ 8 := pcn_le 8 b
/-- The ones of a word. -/
theorem pop_word (x : Nat) (hx : x < 18446744073709551616) : ∃ b0 b1 b2 b3 b4 b5 b6 b7 : Nat, b0 ≤ 8 ∧ b1 ≤ 8 ∧ b2 ≤ 8 ∧ b3 ≤ 8 ∧ b4 ≤ 8 ∧ b5 ≤ 8 ∧ b6 ≤ 8 ∧ b7 ≤ 8 ∧
    pb 8 x = b0 + 256 * b1 + 65536 * b2 + 16777216 * b3 + 4294967296 * b4 + 1099511627776 * b5 + 281474976710656 * b6 + 72057594037927936 * b7 ∧
    pcn 64 x = b0 + b1 + b2 + b3 + b4 + b5 + b6 + b7 := by
  have hx' : ∀ y : Nat, y = y % 256 + 256 * (y / 256) := fun y => by omega
  have s : ∀ (k y : Nat), pcn (8 + k) y = pcn 8 (y % 256) + pcn k (y / 256) := fun k y => by
    conv => lhs; rw [hx' y]
    exact pcn_byte k _ _ (by omega)
  refine ⟨_, _, _, _, _, _, _, _, pcn8_le (x % 256), pcn8_le (x / 256 % 256), pcn8_le (x / 256 / 256 % 256), pcn8_le (x / 256 / 256 / 256 % 256), pcn8_le (x / 256 / 256 / 256 / 256 % 256), pcn8_le (x / 256 / 256 / 256 / 256 / 256 % 256), pcn8_le (x / 256 / 256 / 256 / 256 / 256 / 256 % 256), pcn8_le (x / 256 / 256 / 256 / 256 / 256 / 256 / 256 % 256), ?_, ?_⟩
  · have e : ∀ (k y : Nat), pb (k + 1) y = pcn 8 (y % 256) + 256 * pb k (y / 256) := fun _ _ => rfl
    rw [e 7, e 6, e 5, e 4, e 3, e 2, e 1, e 0]
    simp only [pb]
    omega
  · have t0 := s 56 x
    have t1 := s 48 (x / 256)
    have t2 := s 40 (x / 256 / 256)
    have t3 := s 32 (x / 256 / 256 / 256)
    have t4 := s 24 (x / 256 / 256 / 256 / 256)
    have t5 := s 16 (x / 256 / 256 / 256 / 256 / 256)
    have t6 := s 8 (x / 256 / 256 / 256 / 256 / 256 / 256)
    simp only [Nat.reduceAdd] at t0 t1 t2 t3 t4 t5 t6
    have e : x / 256 / 256 / 256 / 256 / 256 / 256 / 256 = x / 256 / 256 / 256 / 256 / 256 / 256 / 256 % 256 := by omega
    rw [← e, t0, t1, t2, t3, t4, t5, t6]; omega
theorem div_low (a t k : Nat) (h : a < k) : (a + k * t) / k = t := by
  rw [Nat.add_mul_div_left _ _ (by omega), Nat.div_eq_of_lt h, Nat.zero_add]
/-- The last steps of the count. -/
theorem pop_fold (x : Nat) (hx : x < 18446744073709551616) (y1 y2 y3 : Nat) (h1 : y1 = (pb 8 x + pb 8 x / 256) % 18446744073709551616) (h2 : y2 = (y1 + y1 / 65536) % 18446744073709551616) (h3 : y3 = (y2 + y2 / 4294967296) % 18446744073709551616) : y3 % 128 = pcn 64 x ∧ y3 < 9223372036854775808 := by
  obtain ⟨b0, b1, b2, b3, b4, b5, b6, b7, g0, g1, g2, g3, g4, g5, g6, g7, e, p⟩ := pop_word x hx
  obtain ⟨T1, t1⟩ : ∃ t, t = b1 + 256 * b2 + 65536 * b3 + 16777216 * b4 + 4294967296 * b5 + 1099511627776 * b6 + 281474976710656 * b7 := ⟨_, rfl⟩
  have d1 : pb 8 x / 256 = T1 := by rw [show pb 8 x = b0 + 256 * T1 by omega]; exact div_low _ _ _ (by omega)
  rw [d1, e] at h1
  obtain ⟨T2, t2⟩ : ∃ t, t = (b2 + b3) + 256 * (b3 + b4) + 65536 * (b4 + b5) + 16777216 * (b5 + b6) + 4294967296 * (b6 + b7) + 1099511627776 * b7 := ⟨_, rfl⟩
  have e1 : y1 = (b0 + b1 + 256 * (b1 + b2)) + 65536 * T2 := by
    rw [h1, Nat.mod_eq_of_lt (by clear h1 h2 h3 e p d1; omega)]; clear h1 h2 h3 e p d1; omega
  clear d1 h1 e
  have d2 : y1 / 65536 = T2 := by rw [e1]; exact div_low _ _ _ (by omega)
  rw [d2, e1] at h2
  obtain ⟨T3, t3⟩ : ∃ t, t = (b4 + b5 + (b6 + b7)) + 256 * (b5 + b6 + b7) + 65536 * (b6 + b7) + 16777216 * b7 := ⟨_, rfl⟩
  obtain ⟨L3, l3⟩ : ∃ t, t = (b0 + b1 + (b2 + b3)) + 256 * (b1 + b2 + (b3 + b4)) + 65536 * (b2 + b3 + (b4 + b5)) + 16777216 * (b3 + b4 + (b5 + b6)) := ⟨_, rfl⟩
  have e2 : y2 = L3 + 4294967296 * T3 := by
    rw [h2, Nat.mod_eq_of_lt (by clear h2 h3 p d2 e1 l3 t3; omega)]; clear h2 h3 p d2 e1 t1 g0 g1 g2 g3 g4 g5 g6 g7; subst t2; subst l3; subst t3; omega
  clear d2 h2 e1 t1 t2
  have d3 : y2 / 4294967296 = T3 := by rw [e2]; exact div_low _ _ _ (by omega)
  rw [d3, e2] at h3
  have e3 : y3 = L3 + 4294967296 * T3 + T3 := by rw [h3, Nat.mod_eq_of_lt (by clear h3 p d3 e2; omega)]
  have hb : y3 < 9223372036854775808 := by clear h3 p d3 e2; omega
  clear h3 d3 e2
  obtain ⟨R, r⟩ : ∃ t, t = 2 * (b1 + b2 + (b3 + b4)) + 512 * (b2 + b3 + (b4 + b5)) + 131072 * (b3 + b4 + (b5 + b6)) + 33554432 * T3 + (2 * (b5 + b6 + b7) + 512 * (b6 + b7) + 131072 * b7) := ⟨_, rfl⟩
  have e4 : y3 = (b0 + b1 + b2 + b3 + b4 + b5 + b6 + b7) + 128 * R := by
    rw [e3]; clear e3 hb p g0 g1 g2 g3 g4 g5 g6 g7; subst r; subst l3; subst t3; omega
  refine ⟨?_, hb⟩
  rw [e4, p, Nat.add_mul_mod_self_left, Nat.mod_eq_of_lt (by clear hb e4 e3 r l3 t3 p; omega)]
end Cs
namespace Go.Proofs.YtemgfhdgpkmmaaaDoor
theorem i64_and127 (y : Nat) (hy : y < 9223372036854775808) : bits .and .i64 (y : Int) 127 = ((y % 128 : Nat) : Int) := by
  show IntKind.i64.wrap ((BitVec.ofInt 64 (y : Int) &&& BitVec.ofInt 64 ((127 : Nat) : Int)).toNat : Int) = _
  rw [BitVec.toNat_and, ofInt_u64 y (by omega), ofInt_u64 127 (by decide), nat_mask7, IntKind.wrap_i64]
  omega
theorem mod_and (a m : Nat) (hm : m < 18446744073709551616) : (a % 18446744073709551616) &&& m = a &&& m := by
  apply Nat.eq_of_testBit_eq
  intro i
  rw [Nat.testBit_and, Nat.testBit_and, show (18446744073709551616 : Nat) = 2 ^ 64 from rfl, Nat.testBit_mod_two_pow]
  by_cases h : i < 64
  · simp [h]
  · rw [Nat.testBit_lt_two_pow (x := m) (Nat.lt_of_lt_of_le hm (Nat.pow_le_pow_right (n := 2) (by decide) (show 64 ≤ i by omega)))]; simp
set_option maxRecDepth 100000 in
set_option maxHeartbeats 2000000 in
theorem ones64_any (w : World) (x : Nat) (hx : x < 18446744073709551616) : Calls Tryd.prog 104 #[.int .u64 x] w fun e w' => e = .returned (.int .i64 (pcn 64 x : Nat)) ∧ w = w' := by
  have hp := fun y1 y2 y3 => pop_fold x hx y1 y2 y3
  rw [← pf3_all 8 x, show rep 15 8 = 1085102592571150095 from rfl, show rep 51 8 = 3689348814741910323 from rfl, show rep 85 8 = 6148914691236517205 from rfl] at hp
  have e1 : IntKind.u64.wrap (bits BinOp.and IntKind.u64 ((x : Int) / 2) 6148914691236517205 + bits BinOp.and IntKind.u64 (x : Int) 6148914691236517205) = ((pf1 6148914691236517205 x : Nat) : Int) := by
    have h1 := u64_and_nat (x / 2) 6148914691236517205 (by omega) (by decide)
    have h2 := u64_and_nat x 6148914691236517205 (by omega) (by decide)
    have h3 : (((x / 2 : Nat)) : Int) = (x : Int) / 2 := by omega
    rw [h3] at h1
    have l1 : x / 2 &&& 6148914691236517205 ≤ 6148914691236517205 := Nat.and_le_right
    have l2 : x &&& 6148914691236517205 ≤ 6148914691236517205 := Nat.and_le_right
    simp only [Int.cast_ofNat_Int] at h1 h2
    rw [h1, h2, IntKind.wrap_u64]; unfold pf1; omega
  have l1 : pf1 6148914691236517205 x < 18446744073709551616 := by
    have l1 : x / 2 &&& 6148914691236517205 ≤ 6148914691236517205 := Nat.and_le_right
    have l2 : x &&& 6148914691236517205 ≤ 6148914691236517205 := Nat.and_le_right
    unfold pf1; omega
  obtain ⟨x1, hx1⟩ : ∃ a, pf1 6148914691236517205 x = a := ⟨_, rfl⟩
  rw [hx1] at hp e1 l1
  have e2 : IntKind.u64.wrap (bits BinOp.and IntKind.u64 ((x1 : Int) / 4) 3689348814741910323 + bits BinOp.and IntKind.u64 (x1 : Int) 3689348814741910323) = ((pf2 3689348814741910323 x1 : Nat) : Int) := by
    have h1 := u64_and_nat (x1 / 4) 3689348814741910323 (by omega) (by decide)
    have h2 := u64_and_nat x1 3689348814741910323 (by omega) (by decide)
    have h3 : (((x1 / 4 : Nat)) : Int) = (x1 : Int) / 4 := by omega
    rw [h3] at h1
    have l1 : x1 / 4 &&& 3689348814741910323 ≤ 3689348814741910323 := Nat.and_le_right
    have l2 : x1 &&& 3689348814741910323 ≤ 3689348814741910323 := Nat.and_le_right
    simp only [Int.cast_ofNat_Int] at h1 h2
    rw [h1, h2, IntKind.wrap_u64]; unfold pf2; omega
  have l2 : pf2 3689348814741910323 x1 < 18446744073709551616 := by
    have l1 : x1 / 4 &&& 3689348814741910323 ≤ 3689348814741910323 := Nat.and_le_right
    have l2 : x1 &&& 3689348814741910323 ≤ 3689348814741910323 := Nat.and_le_right
    unfold pf2; omega
  obtain ⟨x2, hx2⟩ : ∃ a, pf2 3689348814741910323 x1 = a := ⟨_, rfl⟩
  rw [hx2] at hp e2 l2
  have e3 : bits BinOp.and IntKind.u64 (IntKind.u64.wrap ((x2 : Int) / 16 + (x2 : Int))) 1085102592571150095 = ((pf3 1085102592571150095 x2 : Nat) : Int) := by
    have h3 : IntKind.u64.wrap ((x2 : Int) / 16 + (x2 : Int)) = (((x2 / 16 + x2) % 18446744073709551616 : Nat) : Int) := by rw [IntKind.wrap_u64]; omega
    have h1 := u64_and_nat ((x2 / 16 + x2) % 18446744073709551616) 1085102592571150095 (Nat.mod_lt _ (by decide)) (by decide)
    simp only [Int.cast_ofNat_Int] at h1
    rw [h3, h1, mod_and _ _ (by decide)]; rfl
  have l3 : pf3 1085102592571150095 x2 ≤ 1085102592571150095 := Nat.and_le_right
  obtain ⟨x3, hx3⟩ : ∃ a, pf3 1085102592571150095 x2 = a := ⟨_, rfl⟩
  rw [hx3] at hp e3 l3
  obtain ⟨y1, hy1⟩ : ∃ a, a = (x3 + x3 / 256) % 18446744073709551616 := ⟨_, rfl⟩
  have e4 : IntKind.u64.wrap ((x3 : Int) + (x3 : Int) / 256) = (y1 : Int) := by rw [IntKind.wrap_u64, hy1]; omega
  obtain ⟨y2, hy2⟩ : ∃ a, a = (y1 + y1 / 65536) % 18446744073709551616 := ⟨_, rfl⟩
  have e5 : IntKind.u64.wrap ((y1 : Int) + (y1 : Int) / 65536) = (y2 : Int) := by rw [IntKind.wrap_u64, hy2]; omega
  obtain ⟨y3, hy3⟩ : ∃ a, a = (y2 + y2 / 4294967296) % 18446744073709551616 := ⟨_, rfl⟩
  have e6 : IntKind.u64.wrap ((y2 : Int) + (y2 : Int) / 4294967296) = (y3 : Int) := by rw [IntKind.wrap_u64, hy3]; omega
  obtain ⟨p1, p2⟩ := hp y1 y2 y3 hy1 hy2 hy3
  have e7 : IntKind.i64.wrap (y3 : Int) = (y3 : Int) := by rw [IntKind.wrap_i64]; omega
  have e8 := i64_and127 y3 p2
  rw [p1] at e8
  clear hp hx1 hx2 hx3 hy1 hy2 hy3 p1 l1 l2 l3
  go_enter Tryd.func104, Tryd.ntmps104
  go_wp2
  go_ret
  exact ⟨rfl, rfl⟩
end Go.Proofs.YtemgfhdgpkmmaaaDoor
