import Derived.Test.YtoljkoifgnmbgaaGreatDoorQ2
import Derived.Test.YtoljkoifgnmbgaaGreatDoorN1
import Derived.Test.YtoljkoifgnmbgaaGreatDoorV1
section
set_option linter.unusedSimpArgs false
set_option linter.unusedVariables false
section
open Go Go.RowKit Cs
namespace Cs
def key (s : Nat) : Nat := sN (fun i => if s.testBit i then 2 ^ (127 - i) else 0) 128
structure Pt where
 set : Nat
 ok : Bool
def agr (a f U s : Nat) : Prop := ∀ i, U.testBit i = true → f.testBit i = true → s.testBit i = a.testBit i
structure Lst (a f U : Nat) (M : Nat → Prop) (p : Pt) : Prop where
 dep : ∀ s t, (∀ i, U.testBit i = true → s.testBit i = t.testBit i) → M s → M t
 sub : p.ok = true → ∀ i, p.set.testBit i = true → U.testBit i = true
 mem : p.ok = true → M p.set ∧ agr a f U p.set
 min : ∀ s, M s → agr a f U s → p.ok = true ∧ key p.set ≤ key (s &&& U)
section
variable {a f U V : Nat} {M K : Nat → Prop} {p q : Pt}
theorem Lst.no (a f U : Nat) : Lst a f U (fun _ => False) ⟨0, false⟩ := ⟨fun _ _ _ h => h, fun h => (by cases h), fun h => (by cases h), fun _ h => False.elim h⟩
end
end Cs
end
end
section
set_option linter.unusedSimpArgs false
set_option linter.unusedVariables false
open Go Go.RowKit Cs
namespace Cs
def pf1 (m x : Nat) : Nat := (x / 2 &&& m) + (x &&& m)
def pf2 (m x : Nat) : Nat := (x / 4 &&& m) + (x &&& m)
def pf3 (m x : Nat) : Nat := (x / 16 + x) &&& m
def g1 (b : Nat) : Nat := pf1 85 b
def g2 (b : Nat) : Nat := pf2 51 b
def g3 (b : Nat) : Nat := pf3 15 b
end Cs
end
section
set_option linter.unusedSimpArgs false
set_option linter.unusedVariables false
set_option maxRecDepth 100000
set_option maxHeartbeats 1000000
open Go Go.RowKit Cs
namespace Cs
theorem has_bit (s : Nat) (v : Int) (h1 : 1 ≤ v) (h2 : v ≤ 128) : has s v = s.testBit (v.toNat - 1) := by unfold has; rw [decide_eq_true ⟨h1, h2⟩, Bool.true_and]
theorem and_two_ne (x i : Nat) : (((x &&& 2 ^ i : Nat) : Int) != 0) = x.testBit i := by
 rw [nat_bit];have e := Nat.testBit_eq_decide_div_mod_eq (x := x) (i := i);rw [e];have hp := Nat.two_pow_pos i;rcases Nat.mod_two_eq_zero_or_one (x / 2 ^ i) with h | h
 ·rw [h]; simp
 ·have h2 : (((2 ^ i : Nat) : Int) != 0) = true := bne_iff_ne.2 (by omega)
  rw [h, Nat.one_mul, h2]; simp
end Cs
namespace Go.Proofs.YtoljkoifgnmbgaaGreatDoor
open Go.Shelf
theorem has_any (w : World) (s : Nat) (v : Int) : Calls Tryz.prog 106 #[setV s, .int .i64 v] w fun e w' => e = .returned (.bool (has s v)) ∧ Below w.heap.size w w' := by
 have hbl : Below w.heap.size w (w.alloc (.cells #[.int .u64 (lo s : Int), .int .u64 (hi s : Int)] 138)) := (zqr _ _).alloc (zqn _) _;by_cases hv : 1 ≤ v ∧ v ≤ 128
 ·obtain ⟨hv1, hv2⟩ := hv;have hh := has_bit s v hv1 hv2;by_cases h64 : v ≤ 64
  ·have h1 := u64_and_nat (lo s) (lo (2 ^ (v.toNat - 1))) (lo_lt _) (lo_lt _)
   have h2 : lo (2 ^ (v.toNat - 1)) = 2 ^ (v.toNat - 1) := by rw [lo_two, if_pos (by omega)]
   have h3 := and_two_ne (lo s) (v.toNat - 1);rw [lo_bit, decide_eq_true (by omega), Bool.true_and, ← hh, ← h2] at h3;have H3 := zqh h3;clear h2 h3 hh
   go_enter Tryz.func106, Tryz.ntmps106
   go_wp2_with (go_at_call 149; refine (place_lo _ v hv1 h64).mono ?_; rintro e w' ⟨rfl, rfl⟩)
   go_ret
   exact ⟨congrArg (fun b => Ending.returned (.bool b)) H3.out, hbl⟩
  ·have h1 := u64_and_nat (hi s) (hi (2 ^ (v.toNat - 1))) (hi_lt _) (hi_lt _)
   have h2 : hi (2 ^ (v.toNat - 1)) = 2 ^ (v.toNat - 1 - 64) := by rw [hi_two _ (by omega), if_neg (by omega)]
   have h3 := and_two_ne (hi s) (v.toNat - 1 - 64);rw [hi_bit, decide_eq_true (by omega), Bool.true_and, show v.toNat - 1 - 64 + 64 = v.toNat - 1 by omega, ← hh, ← h2] at h3;have H3 := zqh h3;clear h2 h3 hh
   go_enter Tryz.func106, Tryz.ntmps106
   go_wp2_with (go_at_call 149; refine (place_hi _ v (by omega) hv2).mono ?_; rintro e w' ⟨rfl, rfl⟩)
   go_ret
   exact ⟨congrArg (fun b => Ending.returned (.bool b)) H3.out, hbl⟩
 ·have hh : has s v = false := by unfold has; rw [decide_eq_false hv]; rfl
  rw [hh];clear hh
  go_enter Tryz.func106, Tryz.ntmps106
  go_wp2_with (go_at_call 149; refine (place_no _ v (by omega)).mono ?_; rintro e w' ⟨rfl, rfl⟩)
  go_ret
  exact ⟨rfl, hbl⟩
end Go.Proofs.YtoljkoifgnmbgaaGreatDoor
end
