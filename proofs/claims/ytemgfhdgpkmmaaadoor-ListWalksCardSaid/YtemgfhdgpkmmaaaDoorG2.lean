/- The laws' helpers: assign, Light, Decomposable for every net. -/
import Derived.Test.YtemgfhdgpkmmaaaDoorW2
import Derived.Test.YtemgfhdgpkmmaaaDoorGa
import Derived.Test.YtemgfhdgpkmmaaaDoorHa
import Derived.IntWalk
set_option linter.unusedSimpArgs false
set_option linter.unusedVariables false
open Go Go.RowKit Cs
namespace Cs
theorem int_bit (k j : Nat) (hk : k < 1024) : bits BinOp.and IntKind.i64 ((k : Int) / 2 ^ j) 1 = if k.testBit j then 1 else 0 := by
  have h := u64_and_nat (k / 2 ^ j) 1 (Nat.lt_of_le_of_lt (Nat.div_le_self _ _) (by omega)) (by decide)
  have e : bits BinOp.and IntKind.i64 ((k : Int) / 2 ^ j) 1 = ((k / 2 ^ j % 2 : Nat) : Int) := by
    have h2 : ((k : Int) / 2 ^ j) = ((k / 2 ^ j : Nat) : Int) := by simp
    rw [h2]
    have hb : k / 2 ^ j < 1024 := Nat.lt_of_le_of_lt (Nat.div_le_self _ _) hk
    generalize k / 2 ^ j = x at hb
    clear h h2
    revert x
    decide +kernel
  rw [e, Nat.testBit_eq_decide_div_mod_eq]
  rcases Nat.mod_two_eq_zero_or_one (k / 2 ^ j) with h1 | h1 <;> rw [h1] <;> rfl
theorem asg_hi (k n m : Nat) (hm : m ≤ n) (hn : n ≤ 10) : hi (asgTo k n m) = 0 := by
  have h := asgTo_lt k n m
  have : asgTo k n m < 2 ^ 10 := Nat.lt_of_lt_of_le h (Nat.pow_le_pow_right (by decide) (by omega))
  unfold hi
  rw [Nat.div_eq_of_lt (by omega)]
theorem asg_step (k n m : Nat) (hk : k < 1024) (hm : m < n) (hn : n ≤ 10) :
    bits BinOp.or IntKind.u64 ((lo (asgTo k n m) : Nat) : Int) (IntKind.u64.wrap (IntKind.u64.wrap (bits BinOp.and IntKind.i64 ((k : Int) / 2 ^ (n - (m + 1))) 1) * 2 ^ m)) = ((lo (asgTo k n (m + 1)) : Nat) : Int) := by
  rw [int_bit k _ hk, show n - (m + 1) = n - 1 - m by omega]
  have h2 : (2 : Nat) ^ m ≤ 2 ^ 9 := Nat.pow_le_pow_right (by decide) (by omega)
  have e : IntKind.u64.wrap (IntKind.u64.wrap (if k.testBit (n - 1 - m) then 1 else 0) * 2 ^ m) = ((if k.testBit (n - 1 - m) then 2 ^ m else 0 : Nat) : Int) := by
    have h3 : ((2 : Int) ^ m) = ((2 ^ m : Nat) : Int) := by simp
    cases k.testBit (n - 1 - m)
    · rw [if_neg (by decide), if_neg (by decide), show IntKind.u64.wrap 0 = 0 from IntWalk.u64_in 0 (by omega), Int.zero_mul]
      exact IntWalk.u64_in 0 (by omega)
    · rw [if_pos rfl, if_pos rfl, show IntKind.u64.wrap 1 = 1 from IntWalk.u64_in 1 (by omega), Int.one_mul, h3]
      obtain ⟨y, hy⟩ : ∃ y, 2 ^ m = y := ⟨_, rfl⟩
      rw [hy] at h2 ⊢
      exact IntWalk.u64_in _ (by omega)
  rw [e, u64_or_nat _ _ (lo_lt _) (by split <;> omega)]
  congr 1
  have h := asgTo_lt k n m
  have h' := asgTo_lt k n (m + 1)
  have p1 : (2 : Nat) ^ m ≤ 2 ^ 10 := Nat.pow_le_pow_right (by decide) (by omega)
  have p2 : (2 : Nat) ^ (m + 1) ≤ 2 ^ 10 := Nat.pow_le_pow_right (by decide) (by omega)
  unfold lo
  rw [Nat.mod_eq_of_lt (show asgTo k n m < 18446744073709551616 by omega), Nat.mod_eq_of_lt (show asgTo k n (m + 1) < 18446744073709551616 by omega)]
  rfl
end Cs
namespace Go.Proofs.YtemgfhdgpkmmaaaDoor
set_option maxRecDepth 100000 in
set_option maxHeartbeats 1000000 in
theorem assign_any (w : World) (k n : Nat) (hk : k < 1024) (hn : n ≤ 10) :
    Calls Tryd.prog 18 #[.int .i64 (k : Int), .int .i64 (n : Int)] w fun e w' => e = .returned (setV (asg k n)) ∧ Below w.heap.size w w' := by
  go_enter Tryd.func18, Tryd.ntmps18
  go_wp2
  have hr0 : ((w.alloc (.cells #[.int .u64 0, .int .u64 0] 27)).alloc (.cells #[.int .u64 0, .int .u64 0] 27)).rowIs w.heap.size 27 2 (setF 0) := (setZero _ _ _ rfl).alloc _
  have hs0 : ((w.alloc (.cells #[.int .u64 0, .int .u64 0] 27)).alloc (.cells #[.int .u64 0, .int .u64 0] 27)).rowIs (w.heap.size + 1) 27 2 (setF 0) := setZero _ _ _ (by simp)
  have hb0 : Below w.heap.size w ((w.alloc (.cells #[.int .u64 0, .int .u64 0] 27)).alloc (.cells #[.int .u64 0, .int .u64 0] 27)) := ((Below.refl _ _).alloc (Nat.le_refl _) _).alloc (by simp) _
  go_loopw [6] (fun t wr => ∃ m : Nat, m ≤ n ∧ t = .int .i64 ((m : Int) + 1) ∧ wr.rowIs w.heap.size 27 2 (setF 0) ∧ wr.rowIs (w.heap.size + 1) 27 2 (setF (asgTo k n m)) ∧ Below w.heap.size w wr) (fun t _ => n + 1 - (intOf t).toNat)
  case atStart => exact ⟨0, by omega, rfl, hr0, hs0, hb0⟩
  case round =>
    clear hr0 hs0 hb0
    obtain ⟨m, hm, rfl, hr, hs, hb⟩ := hrel
    by_cases hlt : m < n
    · obtain ⟨c1, c2, f1, f2⟩ := setCells hs
      have HX := Lib.hid (asg_step k n m hk hlt hn)
      have HY := Lib.hid (asg_hi k n m hm hn)
      go_wp2
      go_roundw
      case rel =>
        refine ⟨m + 1, by omega, by go_num, hr.setOther (by simp) _, ?_, hb.setCell (by simp) _⟩
        rw [HX.out]
        exact (hs.set 0 _).congr fun i hi => by
          have : i = 0 ∨ i = 1 := by omega
          rcases this with rfl | rfl
          · rfl
          · show Value.int .u64 (Cs.hi (asgTo k n m) : Int) = .int .u64 (Cs.hi (asgTo k n (m + 1)) : Int)
            rw [HY.out, asg_hi k n (m + 1) (by omega) hn]
      case measure => simp [intOf]; omega
    · obtain rfl : m = n := by omega
      obtain ⟨c1, c2, f1, f2⟩ := setCells hs
      obtain ⟨d1, d2, d3, d4⟩ := setCells hr
      have hl : ¬ (m : Int) + 1 ≤ (m : Int) := by omega
      go_wp2
      exact ret_set rfl (asgTo k m m) rfl (setPut hr _) rfl rfl rfl ⟨rfl, (hb.setCell (Nat.le_refl _) _).setCell (Nat.le_refl _) _⟩
set_option maxRecDepth 100000 in
set_option maxHeartbeats 1000000 in
theorem light_any (w : World) (N : Nt) (A : Option Addr) (c m : Nat) (hlen : N.l.length ≤ 140737488355328) (hN : NtAt w w.heap.size A N.l) (hm : m ≤ 1000) :
    Calls Tryd.prog 16 #[ntV N A c, .int .i64 (m : Int)] w fun e w' => e = .returned (.bool (lightB N m)) ∧ Below w.heap.size w w' := by
  obtain ⟨n, l⟩ := N
  simp only at hlen hN
  have hbl : Below w.heap.size w (w.alloc (.cells #[.int .i64 n, .slice A l.length c] 24)) := (Below.refl _ _).alloc (Nat.le_refl _) _
  have hbx := ntNew w ⟨n, l⟩ A c 24 _ rfl
  obtain ⟨B, hB⟩ : ∃ B, lightB ⟨n, l⟩ m = B := ⟨_, rfl⟩
  have hf : lightB ⟨n, l⟩ m = (slim l && decide (l.length ≤ m)) := rfl
  rw [hB] at hf ⊢
  have HF := Lib.hid hf
  clear hf hB
  go_enter Tryd.func16, Tryd.ntmps16
  go_wp2
  go_loopw [10] (fun t wr => ∃ k : Nat, k ≤ l.length ∧ t = .int .i64 k ∧ Hid (slim (l.take k) = true) ∧ wr.rowIs w.heap.size 24 2 (ntF ⟨n, l⟩ A c) ∧ Below w.heap.size w wr) (fun t _ => l.length - (intOf t).toNat)
  case atStart => exact ⟨0, by omega, rfl, rfl, hbx, hbl⟩
  case round =>
    clear hbx hbl
    obtain ⟨k, hk, rfl, HS, hbx, hbl⟩ := hrel
    by_cases hlt : k < l.length
    · obtain ⟨b, o, rfl, hbB, hcs⟩ := hN (by omega)
      have hnd := hcs k hlt
      clear hcs
      have hst := slim_take hlt
      have hno := fun h => slim_not hlt h
      obtain ⟨x, hx⟩ : ∃ x, l[k] = x := ⟨_, rfl⟩
      rw [hx] at hnd hst
      simp only [hx] at hno
      obtain ⟨hk1, hk2, ⟨A', c', hk3, hrd⟩, hr1, hr2, hr3, hr4⟩ := hnd
      replace hk1 := below_cell hbl hbB hk1
      replace hk2 := below_cell hbl hbB hk2
      replace hk3 := below_cell hbl hbB hk3
      have HST := Lib.hid hst
      have HNO := Lib.hid hno
      clear hrd hst hno hx
      by_cases h40 : x.ins.length ≤ 40
      · go_wp2
        go_roundw
        case rel =>
          refine ⟨k + 1, by omega, by go_num, ?_, hbx.alloc _, hbl.alloc hbl.size _⟩
          have h := HST.out
          rw [HS.out, decide_eq_true h40] at h
          exact h
        case measure => simp [intOf]; omega
      · have h := HNO.out h40
        have h2 := HF.out
        rw [h, Bool.false_and] at h2
        have HF2 := Lib.hid h2
        clear h h2
        go_wp2
        go_ret
        exact ⟨by rw [HF2.out]; try rfl, hbl.alloc hbl.size _⟩
    · obtain rfl : k = l.length := by omega
      have h := HS.out
      rw [List.take_length] at h
      have h2 := HF.out
      rw [h, Bool.true_and] at h2
      have HF2 := Lib.hid h2
      obtain ⟨c1, c2⟩ := ntCells hbx
      clear h h2
      by_cases hle : l.length ≤ m
      · go_wp2
        go_ret
        exact ⟨by rw [HF2.out, decide_eq_true hle]; try rfl, hbl⟩
      · go_wp2
        go_ret
        exact ⟨by rw [HF2.out, decide_eq_false hle]; try rfl, hbl⟩
theorem decomposable_g (w : World) (N : Nt) (A : Option Addr) (c : Nat) (hlen : N.l.length ≤ 140737488355328) (hN : NtAt w w.heap.size A N.l) :
    Calls Tryd.prog 17 #[ntV N A c] w fun e w' => e = .returned (.bool (vld N && dcmp N)) ∧ Below w.heap.size w w' := by
  by_cases hv : vld N = true
  · rw [hv, Bool.true_and]; exact decomposable_any w N A c hN hv
  · have hv : vld N = false := by simpa using hv
    rw [hv, Bool.false_and]
    have hck := fun W h => nodeCheck_any W N A c hlen h
    rw [show chk N = 1 by unfold chk; rw [hv]; rfl] at hck
    have HCK := Lib.hid hck
    have hbl : Below w.heap.size w (w.alloc (.cells #[.int .i64 N.n, .slice A N.l.length c] 24)) := (Below.refl _ _).alloc (Nat.le_refl _) _
    clear hck
    go_enter Tryd.func17, Tryd.ntmps17
    go_wp2_with fail
    refine (HCK.out _ ((hN.below hbl).more hbl.size)).mono ?_
    rintro e w5 ⟨rfl, hb5⟩
    replace hbl := Cs.Below.trans' hbl hb5 hbl.size
    go_wp2
    go_ret
    exact ⟨rfl, hbl⟩
end Go.Proofs.YtemgfhdgpkmmaaaDoor
