/- The walks of bits.Len32 and bits.LeadingZeros32. -/
import Derived.Test.YtgnobohfnhpkdaaGreatDoorN2
import Derived.Lib.BitFns
set_option linter.unusedSimpArgs false
set_option linter.unusedVariables false
open Go Go.RowKit Cs
namespace Go.Proofs.YtgnobohfnhpkdaaGreatDoor
set_option maxHeartbeats 4000000 in
set_option maxRecDepth 100000 in
theorem len32_a (x : Int) (w : World) (h0 : 0 ≤ x) (h1 : x ≤ 4294967295) (c1 : x ≤ 255) :
    Calls Tryz.prog 143 #[.int .u32 x] w fun e w' => e = .returned (.int .i64 (Lib.bitLen x.toNat)) ∧ w = w' := by
  have q1 : x ≤ 255 := by omega
  have q0 : 0 ≤ x := by omega
  have l := Lib.bitLen_le8' (x) q0 q1
  have s : Lib.bitLen x.toNat = Lib.bitLen x.toNat := by
    rfl
  have le := Lib.len8_of (x) q0 q1
  have HS := Lib.hid s; have HL := Lib.hid l; have HLE := Lib.hid le
  clear s l le
  go_enter Tryz.func143, Tryz.ntmps143
  go_wp2
  go_ret
  have s := HS.out; have l := HL.out; have le := HLE.out
  refine ⟨congrArg Ending.returned (congrArg (Value.int IntKind.i64) ?_), rfl⟩
  show wrap64 (wrap64 (Lib.len8 x)) = _
  unfold wrap64
  rw [le]
  omega
set_option maxHeartbeats 4000000 in
set_option maxRecDepth 100000 in
theorem len32_b (x : Int) (w : World) (h0 : 0 ≤ x) (h1 : x ≤ 4294967295) (c1 : ¬ x ≤ 255) (c2 : x ≤ 65535) :
    Calls Tryz.prog 143 #[.int .u32 x] w fun e w' => e = .returned (.int .i64 (Lib.bitLen x.toNat)) ∧ w = w' := by
  have q1 : x / 256 ≤ 255 := by omega
  have q0 : 0 ≤ x / 256 := by omega
  have l := Lib.bitLen_le8' (x / 256) q0 q1
  have s : Lib.bitLen x.toNat = 8 + Lib.bitLen (x / 256).toNat := by
    have := Lib.bitLen_shift8 x.toNat (by omega) (by omega)
    have e : (x / 256).toNat = x.toNat / 256 := by omega
    rw [e]; omega
  have le := Lib.len8_of (x / 256) q0 q1
  have HS := Lib.hid s; have HL := Lib.hid l; have HLE := Lib.hid le
  clear s l le
  go_enter Tryz.func143, Tryz.ntmps143
  go_wp2
  go_ret
  have s := HS.out; have l := HL.out; have le := HLE.out
  refine ⟨congrArg Ending.returned (congrArg (Value.int IntKind.i64) ?_), rfl⟩
  rw [s]
  show wrap64 (8 + wrap64 (Lib.len8 (x / 256))) = _
  unfold wrap64
  rw [le]
  omega
set_option maxHeartbeats 4000000 in
set_option maxRecDepth 100000 in
theorem len32_c (x : Int) (w : World) (h0 : 0 ≤ x) (h1 : x ≤ 4294967295) (c2 : ¬ x ≤ 65535) (c3 : x ≤ 16777215) :
    Calls Tryz.prog 143 #[.int .u32 x] w fun e w' => e = .returned (.int .i64 (Lib.bitLen x.toNat)) ∧ w = w' := by
  have q1 : x / 65536 ≤ 255 := by omega
  have q0 : 0 ≤ x / 65536 := by omega
  have l := Lib.bitLen_le8' (x / 65536) q0 q1
  have s : Lib.bitLen x.toNat = 16 + Lib.bitLen (x / 65536).toNat := by
    have := Lib.bitLen_shift16 x.toNat (by omega) (by omega)
    have e : (x / 65536).toNat = x.toNat / 65536 := by omega
    rw [e]; omega
  have le := Lib.len8_of (x / 65536) q0 q1
  have HS := Lib.hid s; have HL := Lib.hid l; have HLE := Lib.hid le
  clear s l le
  go_enter Tryz.func143, Tryz.ntmps143
  go_wp2
  go_ret
  have s := HS.out; have l := HL.out; have le := HLE.out
  refine ⟨congrArg Ending.returned (congrArg (Value.int IntKind.i64) ?_), rfl⟩
  rw [s]
  show wrap64 (16 + wrap64 (Lib.len8 (x / 65536))) = _
  unfold wrap64
  rw [le]
  omega
set_option maxHeartbeats 4000000 in
set_option maxRecDepth 100000 in
theorem len32_d (x : Int) (w : World) (h0 : 0 ≤ x) (h1 : x ≤ 4294967295) (c3 : ¬ x ≤ 16777215) :
    Calls Tryz.prog 143 #[.int .u32 x] w fun e w' => e = .returned (.int .i64 (Lib.bitLen x.toNat)) ∧ w = w' := by
  have q1 : x / 65536 / 256 ≤ 255 := by omega
  have q0 : 0 ≤ x / 65536 / 256 := by omega
  have l := Lib.bitLen_le8' (x / 65536 / 256) q0 q1
  have s : Lib.bitLen x.toNat = 24 + Lib.bitLen (x / 65536 / 256).toNat := by
    have := Lib.bitLen_shift24 x.toNat (by omega) (by omega)
    have e : (x / 65536 / 256).toNat = x.toNat / 16777216 := by omega
    rw [e]; omega
  have le := Lib.len8_of (x / 65536 / 256) q0 q1
  have HS := Lib.hid s; have HL := Lib.hid l; have HLE := Lib.hid le
  clear s l le
  go_enter Tryz.func143, Tryz.ntmps143
  go_wp2
  go_ret
  have s := HS.out; have l := HL.out; have le := HLE.out
  refine ⟨congrArg Ending.returned (congrArg (Value.int IntKind.i64) ?_), rfl⟩
  rw [s]
  show wrap64 (24 + wrap64 (Lib.len8 (x / 65536 / 256))) = _
  unfold wrap64
  rw [le]
  omega
theorem len32_any (x : Int) (w : World) (h0 : 0 ≤ x) (h1 : x ≤ 4294967295) :
    Calls Tryz.prog 143 #[.int .u32 x] w fun e w' => e = .returned (.int .i64 (Lib.bitLen x.toNat)) ∧ w = w' := by
  by_cases c1 : x ≤ 255
  · exact len32_a x w h0 h1 c1
  · by_cases c2 : x ≤ 65535
    · exact len32_b x w h0 h1 c1 c2
    · by_cases c3 : x ≤ 16777215
      · exact len32_c x w h0 h1 c2 c3
      · exact len32_d x w h0 h1 c3
theorem bitLen_nd64 (x : Nat) (h : x < 2 ^ 64) : Lib.bitLen x = nd 2 x := bitLenAux_nd 64 x h
theorem lz32_any (x : Nat) (w : World) (h1 : x < 4294967296) :
    Calls Tryz.prog 124 #[.int .u32 x] w fun e w' => e = .returned (.int .i64 ((32 - nd 2 x : Nat) : Int)) ∧ w = w' := by
  have l : nd 2 x ≤ 32 := (nd_le_iff 2 (by decide) 32 x).2 (by simpa using h1)
  have e0 : (x : Int).toNat = x := Int.toNat_natCast x
  have e1 := bitLen_nd64 x (by omega)
  have e8 : ((32 - nd 2 x : Nat) : Int) = 32 - (nd 2 x : Int) := by omega
  have hc := fun W => len32_any (x : Int) W (by omega) (by omega)
  simp only [e0, e1] at hc
  have HC := Lib.hid hc; clear hc e0 e1
  rw [e8]
  go_enter Tryz.func124, Tryz.ntmps124
  go_wp2_with (go_at_call 143; refine (HC.out _).mono ?_; rintro e w' ⟨rfl, rfl⟩)
  go_ret
  exact ⟨rfl, rfl⟩
end Go.Proofs.YtgnobohfnhpkdaaGreatDoor
