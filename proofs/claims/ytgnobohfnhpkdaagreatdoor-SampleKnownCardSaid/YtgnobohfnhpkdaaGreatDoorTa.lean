/- The walks of nat.grow and nat.Read. The walk of nat.Read. -/
import Derived.Test.YtgnobohfnhpkdaaGreatDoorN1
import Derived.Test.YtgnobohfnhpkdaaGreatDoorM1
import Derived.Laws.OwnMore
import Derived.BigGuardPart
import Derived.Laws.ResultCell
/-! The walks of nat.grow and nat.Read. -/
section
set_option linter.unusedSimpArgs false
set_option linter.unusedVariables false
open Go Go.RowKit Cs
namespace Cs
/-- What is carried into the k-th word of V * 10 + r. -/
def gcy (V r k : Nat) : Nat := (V % 2 ^ (32 * k) * 10 + r) / 2 ^ (32 * k)
theorem gcy_zero (V r : Nat) : gcy V r 0 = r := by simp [gcy, Nat.mod_one]
theorem p32 (k : Nat) : 2 ^ (32 * (k + 1)) = 2 ^ (32 * k) * 4294967296 := by rw [Nat.mul_add, Nat.pow_add]
theorem gcy_le (V r k : Nat) (hr : r < 10) : gcy V r k ≤ 10 := by
  unfold gcy
  have hp : 0 < 2 ^ (32 * k) := Nat.two_pow_pos _
  have := Nat.mod_lt V hp
  generalize 2 ^ (32 * k) = p at *
  refine Nat.le_of_lt_succ ((Nat.div_lt_iff_lt_mul hp).2 ?_)
  generalize V % p = x at *
  omega
theorem gcy_key (V r k : Nat) : (V % 2 ^ (32 * (k + 1)) * 10 + r) / 2 ^ (32 * k) = gcy V r k + wd V k * 10 := by
  have hp : 0 < 2 ^ (32 * k) := Nat.two_pow_pos _
  have e : V % 2 ^ (32 * (k + 1)) = V % 2 ^ (32 * k) + 2 ^ (32 * k) * wd V k := by
    rw [p32, Nat.mod_mul]; rfl
  rw [e]
  unfold gcy
  generalize 2 ^ (32 * k) = p at *
  generalize V % p = x
  generalize wd V k = y
  have : (x + p * y) * 10 + r = x * 10 + r + p * (y * 10) := by rw [Nat.add_mul, Nat.mul_assoc]; omega
  rw [this, Nat.add_mul_div_left _ _ hp]
theorem gcy_succ (V r k : Nat) : gcy V r (k + 1) = (gcy V r k + wd V k * 10) / 4294967296 := by
  rw [← gcy_key, Nat.div_div_eq_div_mul, ← p32]; rfl
theorem gcy_wd (V r k : Nat) : wd (V * 10 + r) k = (gcy V r k + wd V k * 10) % 4294967296 := by
  rw [← gcy_key]
  have hp : 0 < 2 ^ (32 * k) := Nat.two_pow_pos _
  unfold wd
  rw [p32]
  generalize 2 ^ (32 * k) = p at *
  have hd := Nat.div_add_mod V (p * 4294967296)
  generalize V / (p * 4294967296) = q at *
  generalize V % (p * 4294967296) = x at *
  rw [← hd]
  have : (p * 4294967296 * q + x) * 10 + r = x * 10 + r + p * (4294967296 * (q * 10)) := by
    rw [Nat.add_mul, Nat.mul_assoc, Nat.mul_assoc]; omega
  rw [this, Nat.add_mul_div_left _ _ hp, Nat.add_mul_mod_self_left]
theorem gcy_end (V r n : Nat) (h : nw V ≤ n) : gcy V r n = (V * 10 + r) / 2 ^ (32 * n) := by
  unfold gcy
  rw [Nat.mod_eq_of_lt ((nw_le _ _).1 h)]
/-- The words of V, the first k of them already those of W. -/
def mixL (V W k n : Nat) : List Value := (List.range n).map fun j => .int .u32 ((if j < k then wd W j else wd V j : Nat) : Int)
theorem mixL_len (V W k n : Nat) : (mixL V W k n).length = n := by simp [mixL]
theorem mixL_get (V W k n j : Nat) (h : j < n) : (mixL V W k n)[j]? = some (.int .u32 ((if j < k then wd W j else wd V j : Nat) : Int)) := by simp [mixL, h]
theorem mixL_set (V W k n : Nat) (h : k < n) : (mixL V W k n).set k (.int .u32 ((wd W k : Nat) : Int)) = mixL V W (k + 1) n := by
  refine List.ext_getElem? fun j => ?_
  rw [List.getElem?_set]
  rcases Nat.lt_or_ge j n with hj | hj
  · by_cases e : k = j
    · subst e
      rw [mixL_get V W (k + 1) n k hj, if_pos (by omega : k < k + 1)]
      simp [mixL_len, h]
    · rw [if_neg e, mixL_get _ _ _ _ _ hj, mixL_get _ _ _ _ _ hj]
      by_cases e2 : j < k
      · rw [if_pos e2, if_pos (by omega)]
      · rw [if_neg e2, if_neg (by omega)]
  · rw [if_neg (by omega), List.getElem?_eq_none (by rw [mixL_len]; exact hj), List.getElem?_eq_none (by rw [mixL_len]; exact hj)]
/-- The words of V. -/
def wdL (V n : Nat) : List Value := (List.range n).map fun j => .int .u32 ((wd V j : Nat) : Int)
theorem wdL_len (V n : Nat) : (wdL V n).length = n := by simp [wdL]
theorem wdL_get (V n j : Nat) (h : j < n) : (wdL V n)[j]? = some (.int .u32 ((wd V j : Nat) : Int)) := by simp [wdL, h]
theorem mixL_zero (V W n : Nat) : mixL V W 0 n = wdL V n := by unfold mixL wdL; simp
theorem mixL_all (V W n : Nat) : mixL V W n n = wdL W n := by
  unfold mixL wdL
  refine List.map_congr_left fun j hj => ?_
  rw [if_pos (List.mem_range.1 hj)]
theorem wdL_succ (V n : Nat) : wdL V (n + 1) = wdL V n ++ [.int .u32 ((wd V n : Nat) : Int)] := by simp [wdL, List.range_succ]
/-- The value of the first k digits. -/
def digV (s : List UInt8) : Nat → Nat
  | 0 => 0
  | k + 1 => digV s k * 10 + ((s.getD k 0).toNat - 48)
theorem digV_lt (s : List UInt8) (h : ∀ i, (s.getD i 0).toNat ≤ 57) : ∀ k, digV s k < 10 ^ k
  | 0 => Nat.one_pos
  | k + 1 => by
    have h1 := digV_lt s h k
    have h2 := h k
    show digV s k * 10 + _ < 10 ^ (k + 1)
    rw [Nat.pow_succ]
    omega
end Cs
namespace Go.Proofs.YtgnobohfnhpkdaaGreatDoor
theorem grownNone {a w w' : World} {v : Value} (h : a.grownBy w v.ownBlock) (hg : w.grownBy w' v.ownBlock) : a.grownBy w' v.ownBlock :=
  ⟨hg.os.trans h.os, hg.tape.trans h.tape, hg.output.trans h.output, Nat.le_trans h.size hg.size, fun k hk hne => (hg.block k (Nat.lt_of_lt_of_le hk h.size) hne).trans (h.block k hk hne)⟩
set_option maxRecDepth 100000 in
set_option maxHeartbeats 1000000 in
/-- grow, of no words. -/
theorem grow_nil (w : World) (B r : Nat) (hr : r < 10) (hB : B ≤ w.heap.size) :
    Calls Tryz.prog 117 #[.slice none 0 0, .int .u32 10, .int .u32 (r : Int)] w fun e w' => ∃ v' n', e = .returned v' ∧ n' ≤ 1 ∧ nw r ≤ n' ∧ w'.ownsRow B 139 1 v' n' (wdL r n') ∧ Below w.heap.size w w' ∧ (n' = 0 → v' = .slice none 0 0) := by
  obtain ⟨ti, hi, hz0, hz1, hz2⟩ := info_parts info_u32
  rcases Nat.eq_zero_or_pos r with h0 | h0
  · subst h0
    go_enter Tryz.func117, Tryz.ntmps117
    go_wp2_with fail
    go_loopw [7, 13] (fun c t wr => t = .int .i64 0 ∧ c = .int .u64 0 ∧ wr = w) (fun _ _ _ => 0)
    case atStart => exact ⟨rfl, rfl, rfl⟩
    case round =>
      obtain ⟨rfl, rfl, rfl⟩ := hrel
      go_wp2_with fail
      go_ret
      exact ⟨.slice none 0 0, 0, rfl, by omega, by rw [nw_le]; decide, World.ownsRow_nil _ _ _ _, Below.refl _ _, fun _ => rfl⟩
  · have hd : decide ((0 : Int) < (r : Int)) = true := decide_eq_true (by omega)
    have hw0 : wd r 0 = r := by unfold wd; simp; omega
    have hnw : nw r ≤ 1 := by rw [nw_le]; omega
    have HW0 := Lib.hid hw0
    have HNW := Lib.hid hnw
    have hm : (r : Int) % 4294967296 = (r : Int) := by omega
    clear hw0 hnw
    go_enter Tryz.func117, Tryz.ntmps117
    go_wp2_with fail
    go_loopw [7, 13] (fun c t wr => t = .int .i64 0 ∧ c = .int .u64 (r : Int) ∧ wr = w) (fun _ _ _ => 0)
    case atStart => exact ⟨rfl, rfl, rfl⟩
    case round =>
      obtain ⟨rfl, rfl, rfl⟩ := hrel
      go_wp2_with (at_builtin; refine wpList_append_own _ rfl _ _ 137 rfl B 139 ti (.int .u32 0) 1 4 Tryz.underlying137 hi hz0 hz1 hz2 rfl (by decide) _ _ _ rfl (World.ownsRow_nil _ _ _ _) ⟨wr.heap.size, 0, none⟩ 1 1 [.int .u32 (r : Int)] rfl rfl newOne oneInt (by unfold maxLen; omega) (by omega) (by simp; omega) ?_; intro v1 w1 ho1 hg1 _)
      go_ret
      rw [Nat.zero_add, List.nil_append] at ho1
      refine ⟨v1, 1, rfl, by omega, HNW.out, ?_, ?_, fun h => by omega⟩
      · have e : wdL r 1 = [.int .u32 (r : Int)] := by simp [wdL, HW0.out]
        rw [e]; exact ho1
      · have hg2 : (wr.alloc (.cells #[.int .u32 (r : Int)] 139)).grownBy w1 none := hg1
        exact ((Below.refl _ _).alloc (Nat.le_refl _) _).trans ⟨hg2.os, hg2.tape, hg2.output, hg2.size, fun k hk => hg2.block k (by simp; omega) (by simp)⟩
set_option maxRecDepth 100000 in
set_option maxHeartbeats 1000000 in
/-- grow, of words. -/
theorem grow_pos (w : World) (B n V r g cap : Nat) (hn : n ≤ 100000) (hn0 : 0 < n) (hr : r < 10) (hV : nw V ≤ n) (hB : B ≤ w.heap.size) (ho : w.ownsRow B 139 1 (.slice (some ⟨g, 0, none⟩) n cap) n (wdL V n)) :
    Calls Tryz.prog 117 #[.slice (some ⟨g, 0, none⟩) n cap, .int .u32 10, .int .u32 (r : Int)] w fun e w' => ∃ v' n', e = .returned v' ∧ n ≤ n' ∧ n' ≤ n + 1 ∧ nw (V * 10 + r) ≤ n' ∧ w'.ownsRow B 139 1 v' n' (wdL (V * 10 + r) n') ∧ w.grownBy w' (some g) := by
  obtain ⟨ti, hi, hz0, hz1, hz2⟩ := info_parts info_u32
  have hgB := (ho.lt g rfl).1
  rw [← mixL_zero V (V * 10 + r) n] at ho
  go_enter Tryz.func117, Tryz.ntmps117
  go_wp2_with fail
  go_loopw [7, 13] (fun c t wr => ∃ k : Nat, k ≤ n ∧ t = .int .i64 (k : Int) ∧ c = .int .u64 ((gcy V r k : Nat) : Int) ∧ wr.ownsRow B 139 1 (.slice (some ⟨g, 0, none⟩) n cap) n (mixL V (V * 10 + r) k n) ∧ w.grownBy wr (some g) ∧ wr.heap.size = w.heap.size) (fun _ t _ => n - (intOf t).toNat)
  case atStart => exact ⟨0, by omega, rfl, by rw [gcy_zero], ho, World.grownBy.refl w _, rfl⟩
  case round =>
    clear ho
    obtain ⟨k, hk, rfl, rfl, ho, hgr, hsz⟩ := hrel
    have HSZ := Lib.hid hsz
    clear hsz
    have hcl := gcy_le V r k hr
    rcases Nat.lt_or_ge k n with hlt | hge
    · have hc := ownsCell ho (mixL_get V (V * 10 + r) k n k hlt)
      rw [if_neg (Nat.lt_irrefl _)] at hc
      have hf := ho.frozenAt k
      have hx := wd_lt V k
      have h1 := gcy_wd V r k
      have h2 := gcy_succ V r k
      have hst := ho.stored k (.int .u32 ((wd (V * 10 + r) k : Nat) : Int))
      rw [mixL_set V (V * 10 + r) k n hlt] at hst
      have HST := Lib.hid hst
      obtain ⟨c, hc'⟩ : ∃ c, gcy V r k = c := ⟨_, rfl⟩
      obtain ⟨c', hc''⟩ : ∃ c, gcy V r (k + 1) = c := ⟨_, rfl⟩
      obtain ⟨x, hx'⟩ : ∃ c, wd V k = c := ⟨_, rfl⟩
      obtain ⟨y, hy'⟩ : ∃ c, wd (V * 10 + r) k = c := ⟨_, rfl⟩
      rw [hc', hx', hy'] at h1
      rw [hc', hx', hc''] at h2
      rw [hx'] at hc hx
      rw [hc'] at hcl ⊢
      rw [hy'] at HST
      have E1 : ((c : Int) + (x : Int) * 10) % 4294967296 = (y : Int) := by omega
      have E2 : ((c : Int) + (x : Int) * 10) / 4294967296 = (c' : Int) := by omega
      have i1 : (k : Int) < (n : Int) := by omega
      have HC2 := Lib.hid hc''
      clear h1 h2 hst hc' hc'' hx' hy' hi hz0 hz1 hz2
      go_wp2_with fail
      go_roundw
      case rel => exact ⟨k + 1, by omega, by go_num, by rw [HC2.out], HST.out.1, grownNone (v := .slice (some ⟨g, 0, none⟩) n cap) hgr HST.out.2, by rw [size_setCell]; exact HSZ.out⟩
      case measure => simp [intOf]; omega
    · obtain rfl : k = n := by omega
      rw [mixL_all] at ho
      have he := gcy_end V r k hV
      rcases Nat.eq_zero_or_pos (gcy V r k) with h0 | h0
      · have hnw : nw (V * 10 + r) ≤ k := by
          rw [nw_le]
          rw [h0] at he
          have hp : 0 < 2 ^ (32 * k) := Nat.two_pow_pos _
          exact (Nat.div_eq_zero_iff_lt hp).1 he.symm
        have HNW := Lib.hid hnw
        rw [h0]
        clear he hnw h0 hcl
        go_wp2_with fail
        go_ret
        exact ⟨_, k, rfl, Nat.le_refl _, by omega, HNW.out, ho, hgr⟩
      · have hnw : nw (V * 10 + r) ≤ k + 1 := by
          rw [nw_le, p32]
          have hp : 0 < 2 ^ (32 * k) := Nat.two_pow_pos _
          have h3 : (V * 10 + r) / 2 ^ (32 * k) < 4294967296 := by omega
          rw [Nat.mul_comm (2 ^ (32 * k))]
          exact (Nat.div_lt_iff_lt_mul hp).1 h3
        have hwk : wd (V * 10 + r) k = gcy V r k := by
          unfold wd
          rw [← he]
          exact Nat.mod_eq_of_lt (by omega)
        have HNW := Lib.hid hnw
        have HWK := Lib.hid hwk
        have hd : decide ((0 : Int) < ((gcy V r k : Nat) : Int)) = true := decide_eq_true (by omega)
        have hm : ((gcy V r k : Nat) : Int) % 4294967296 = ((gcy V r k : Nat) : Int) := by omega
        have hszz := hgr.size
        clear he hnw hwk
        generalize gcy V r k = c at *
        go_wp2_with (at_builtin; refine wpList_append_own _ rfl _ _ 137 rfl B 139 ti (.int .u32 0) 1 4 Tryz.underlying137 hi hz0 hz1 hz2 rfl (by decide) _ _ _ rfl (ho.alloc _) ⟨wr.heap.size, 0, none⟩ 1 1 [.int .u32 (c : Int)] rfl rfl newOne oneInt (by unfold maxLen; omega) (by omega) (by simp; omega) ?_; intro v1 w1 ho1 hg1 _)
        go_ret
        refine ⟨v1, k + 1, rfl, by omega, by omega, HNW.out, ?_, ?_⟩
        · rw [wdL_succ, HWK.out]; exact ho1
        · exact grownNone (v := .slice (some ⟨g, 0, none⟩) k cap) (only_alloc hgr _) hg1
end Go.Proofs.YtgnobohfnhpkdaaGreatDoor
end
/-! The walk of nat.Read. -/
section
set_option linter.unusedSimpArgs false
set_option linter.unusedVariables false
open Go Go.RowKit Cs
namespace Cs
theorem digV_step (s : ByteArray) (k r : Nat) (h : k < s.size) (hr : s[k].toNat = 48 + r) : digV s.data.toList (k + 1) = digV s.data.toList k * 10 + r := by
  show digV s.data.toList k * 10 + ((s.data.toList.getD k 0).toNat - 48) = _
  have e : s.data.toList.getD k 0 = s[k] := by
    rw [List.getD_eq_getElem?_getD, List.getElem?_eq_getElem (by simpa using h)]
    rfl
  rw [e, hr]
  omega
/-- The digits are digits. -/
def allDig (s : ByteArray) : Prop := ∀ k (h : k < s.size), 48 ≤ s[k].toNat ∧ s[k].toNat ≤ 57
/-- What Read lets in. -/
structure IsNum (s : ByteArray) : Prop where
  pos : 0 < s.size
  few : s.size ≤ 2000
  dig : allDig s
  led : ∀ h : 1 < s.size, s[0].toNat ≠ 48
end Cs
namespace Go.Proofs.YtgnobohfnhpkdaaGreatDoor
set_option maxRecDepth 100000 in
set_option maxHeartbeats 1000000 in
theorem from_nil (w : World) : Calls Tryz.prog 105 #[.slice none 0 0] w fun e w' => e = .returned (natV 0) ∧ Below w.heap.size w w' := by
  have hmk := mk_u8 0 (by omega)
  simp only [Int.natCast_zero] at hmk
  go_enter Tryz.func105, Tryz.ntmps105
  go_wp2_with fail
  go_loopw [12] (fun t wr => t = .int .i64 0 ∧ wr.rowIs w.heap.size 59 1 (fun _ => .string ⟨#[]⟩) ∧ wr.rowIs (w.heap.size + 1) 5 0 (fun j => .int .u8 0) ∧ Below w.heap.size w wr) (fun t _ => 0)
  case atStart =>
    exact ⟨rfl, (boxNew _ _ _ _ rfl).alloc _, rowMade _ _ _ _ _ (by simp) (fun i _ => by simp), ((Below.refl _ _).alloc (Nat.le_refl _) _).alloc (by simp) _⟩
  case round =>
    obtain ⟨rfl, hbox, hrow, hbel⟩ := hrel
    have hb1 := boxCell hbox
    have hb2 := hbox.frozen 0
    have hcv := conv_nat wr (w.heap.size + 1) 0 0 0 (by rw [n8_zero]) (fun i hi => by omega)
    go_wp2_with fail
    go_loop [5] (fun t => t = .int .i64 0) (fun t => 0)
    case atStart => rfl
    case round =>
      obtain rfl := hrel
      go_wp2
      exact ret_nat rfl _ rfl (boxSet hbox _) rfl ⟨rfl, hbel.setCell (Nat.le_refl _) _⟩
/-- A number in a cell and a value in a slot, as the two results. -/
theorem ret_natS {fn : Func} {R : Ending → World → Prop} {a : Act} {w : World} {p u : Tmp} (h : fn.results = #[.cell p 59, .tmp u]) {g : Nat} {t : TypeId} (V : Nat)
    (hp : a.tmps.getD p undef = .pointer (some ⟨g, 0, none⟩)) (hrow : w.rowIs g t 1 fun _ => .string (natB V)) (hdf : a.defers = []) (hR : R (.returned (.tuple #[natV V, a.tmps.getD u undef])) w) : bodyPost Tryz.prog fn R .ret a w := by
  refine bodyPost_ret ?_ hdf hR
  rw [results_cell_tmp h, hp]
  have hl := run_loadVar_row (P := Tryz.prog) w g t 59 _ (0, 0) _ (rowArr hrow) Tryz.underlying59 rfl (by simpa using size_nat)
  simp [asAddr, Result.andThen, hl]
set_option maxRecDepth 100000 in
set_option maxHeartbeats 1000000 in
theorem nread_good (w : World) (s : ByteArray) (h : IsNum s) :
    Calls Tryz.prog 71 #[.string s] w fun e w' => e = .returned (.tuple #[natV (digV s.data.toList s.size), .bool true]) ∧ Below w.heap.size w w' := by
  obtain ⟨h0, h2, hd, hl⟩ := h
  have c0 : ((s.size : Int) == 0) = false := beq_eq_false_iff_ne.2 (by omega)
  have c1 : decide ((2000 : Int) < (s.size : Int)) = false := decide_eq_false (by omega)
  have c2 : (decide ((1 : Int) < (s.size : Int)) = true ∧ 1 < s.size ∧ ((s[0].toNat : Int) == 48) = false) ∨ (decide ((1 : Int) < (s.size : Int)) = false ∧ s.size ≤ 1) := by
    rcases Nat.lt_or_ge 1 s.size with h3 | h3
    · exact .inl ⟨decide_eq_true (by omega), h3, beq_eq_false_iff_ne.2 (by have := hl h3; omega)⟩
    · exact .inr ⟨decide_eq_false (by omega), by omega⟩
  have HD := Lib.hid hd
  clear hl hd
  have hfr := fun W b n cap hb hc hbl hV => from_any W b n cap (digV s.data.toList s.size) hb hc hbl hV
  have HFR := Lib.hid hfr
  have HS := Lib.hid (fun k r (h : k < s.size) (hr : s[k].toNat = 48 + r) => digV_step s k r h hr)
  have hD0 : digV s.data.toList 0 = 0 := rfl
  obtain ⟨D, hD⟩ : ∃ D, digV s.data.toList = D := ⟨_, rfl⟩
  simp only [hD] at HFR HS hD0
  rw [hD]
  clear hD hfr
  have HD0 := Lib.hid hD0
  clear hD0
  have q0 := boxNew w (.string ⟨#[]⟩) 59 _ rfl
  have b0 : Below w.heap.size w (w.alloc (.cells #[.string ⟨#[]⟩] 59)) := (Below.refl _ _).alloc (Nat.le_refl _) _
  have hsz0 : w.heap.size < (w.alloc (.cells #[.string ⟨#[]⟩] 59)).heap.size := by simp
  rcases c2 with ⟨c4, c2, c3⟩ | ⟨c4, c2⟩
  all_goals
    go_enter Tryz.func71, Tryz.ntmps71
    go_wp2_with fail
    go_loopw [4, 27] (fun l t wr => ∃ (k n : Nat), k ≤ s.size ∧ n ≤ k ∧ t = .int .i64 (k : Int) ∧ wr.ownsRow (w.heap.size + 1) 139 1 l n (wdL (D k) n) ∧ Hid (nw (D k) ≤ n) ∧ (n = 0 → l = .slice none 0 0) ∧ wr.rowIs w.heap.size 59 1 (fun _ => .string ⟨#[]⟩) ∧ Below w.heap.size w wr ∧ w.heap.size + 1 ≤ wr.heap.size) (fun _ t _ => s.size - (intOf t).toNat)
    case atStart => exact ⟨0, 0, by omega, by omega, rfl, World.ownsRow_nil _ _ _ _, Lib.hid (by rw [HD0.out, nw_le]; decide), fun _ => rfl, q0, b0, hsz0⟩
    case round =>
      clear q0 b0 hsz0
      obtain ⟨k, n, hk, hn, rfl, ho, HNW, hnil, q1, b1, hs1⟩ := hrel
      rcases Nat.lt_or_ge k s.size with hlt | hge
      · obtain ⟨e1, e2⟩ := HD.out k hlt
        obtain ⟨r, hr⟩ : ∃ r, s[k].toNat = 48 + r := ⟨s[k].toNat - 48, by omega⟩
        have hr10 : r < 10 := by omega
        have hst := HS.out k r hlt hr
        have HST := Lib.hid hst
        have g1 : decide ((48 : Int) + (r : Int) < 48) = false := decide_eq_false (by omega)
        have g2 : decide ((57 : Int) < 48 + (r : Int)) = false := decide_eq_false (by omega)
        have g3 : (48 : Int) + (r : Int) - 48 = (r : Int) := by omega
        clear hst e1 e2
        rcases Nat.eq_zero_or_pos n with hn0 | hn0
        · subst hn0
          obtain rfl := hnil rfl
          have hD0k : D k = 0 := by have := (nw_le 0 (D k)).1 HNW.out; simpa using this
          have HDK := Lib.hid hD0k
          clear hD0k
          go_wp2_with fail
          refine (grow_nil _ (w.heap.size + 1) r hr10 hs1).mono ?_
          rintro e w2 ⟨v', n', rfl, hn1, hnw, ho2, hb2, hnl⟩
          have HNL := Lib.hid hnl
          have hnw2 : nw (D (k + 1)) ≤ n' := by rw [HST.out, HDK.out]; simpa using hnw
          have ho3 : w2.ownsRow (w.heap.size + 1) 139 1 v' n' (wdL (D (k + 1)) n') := by rw [HST.out, HDK.out]; simpa using ho2
          have HNW2 := Lib.hid hnw2
          have q2 := rowBelow q1 hb2
          have b2 := Cs.Below.trans' b1 hb2 b1.size
          have hs2 := hb2.size
          clear hnl hnw hnw2 hnil hr ho2 hb2
          go_wp2_with fail
          go_roundw
          case rel => exact ⟨k + 1, n', by omega, by omega, by go_num, ho3, HNW2, HNL.out, q2, b2, by omega⟩
          case measure => simp [intOf]; omega
        · obtain ⟨g, cap, rfl, hgb, hgl⟩ := ownsForm ho hn0
          go_wp2_with fail
          refine (grow_pos _ (w.heap.size + 1) n (D k) r g cap (by omega) hn0 hr10 HNW.out hs1 ho).mono ?_
          rintro e w2 ⟨v', n', rfl, hn1, hn2, hnw, ho2, hg2⟩
          have hnw2 : nw (D (k + 1)) ≤ n' := by rw [HST.out]; exact hnw
          rw [← HST.out] at ho2
          have HNW2 := Lib.hid hnw2
          have q2 := rowGrown q1 hg2 (by simp; omega)
          have b2 := belowGrown b1 hg2 b1.size (by omega)
          have hs2 := hg2.size
          clear hnw hnw2 hnil hr hg2
          go_wp2_with fail
          go_roundw
          case rel => exact ⟨k + 1, n', by omega, by omega, by go_num, ho2, HNW2, fun h => by omega, q2, b2, by omega⟩
          case measure => simp [intOf]; omega
      · obtain rfl : k = s.size := by omega
        have hz : natB 0 = ⟨#[]⟩ := by simp [natB, n8_zero]
        have HZ := Lib.hid hz
        clear hz
        rcases Nat.eq_zero_or_pos n with hn0 | hn0
        · subst hn0
          obtain rfl := hnil rfl
          have hD0k : D s.size = 0 := by have := (nw_le 0 (D s.size)).1 HNW.out; simpa using this
          have HDK := Lib.hid hD0k
          clear hD0k hnil
          go_wp2_with fail
          refine (from_nil _).mono ?_
          rintro e w2 ⟨rfl, hb2⟩
          have q2 := rowBelow q1 hb2
          have z1 := boxCell q2
          have z2 := q2.frozen 0
          have b2 := Cs.Below.trans' b1 hb2 b1.size
          clear hb2
          go_wp2_with fail
          exact ret_natS rfl 0 rfl (boxSet q2 _) rfl ⟨by rw [HDK.out]; rfl, b2.setCell (Nat.le_refl _) _⟩
        · obtain ⟨g, cap, rfl, hgb, hgl⟩ := ownsForm ho hn0
          clear hnil
          go_wp2_with fail
          refine (HFR.out _ g n cap (by omega) (fun i hi => ownsCell ho (wdL_get _ _ _ hi)) hgl HNW.out).mono ?_
          rintro e w2 ⟨rfl, hb2⟩
          have q2 := rowBelow q1 hb2
          have z1 := boxCell q2
          have z2 := q2.frozen 0
          have b2 := Cs.Below.trans' b1 hb2 b1.size
          clear hb2
          go_wp2_with fail
          exact ret_natS rfl _ rfl (boxSet q2 _) rfl ⟨rfl, b2.setCell (Nat.le_refl _) _⟩
set_option maxRecDepth 100000 in
set_option maxHeartbeats 1000000 in
/-- A byte that is no digit. -/
theorem nread_byte (w : World) (s : ByteArray) (j : Nat) (h0 : 0 < s.size) (h2 : s.size ≤ 2000) (hl : ∀ h : 1 < s.size, s[0].toNat ≠ 48) (hj : j < s.size) (hd : ∀ k, k < j → ∀ h : k < s.size, 48 ≤ s[k].toNat ∧ s[k].toNat ≤ 57) (hb : s[j].toNat < 48 ∨ 57 < s[j].toNat) :
    Calls Tryz.prog 71 #[.string s] w fun e w' => e = .returned (.tuple #[natV 0, .bool false]) ∧ Below w.heap.size w w' := by
  have c0 : ((s.size : Int) == 0) = false := beq_eq_false_iff_ne.2 (by omega)
  have c1 : decide ((2000 : Int) < (s.size : Int)) = false := decide_eq_false (by omega)
  have c2 : (decide ((1 : Int) < (s.size : Int)) = true ∧ 1 < s.size ∧ ((s[0].toNat : Int) == 48) = false) ∨ (decide ((1 : Int) < (s.size : Int)) = false ∧ s.size ≤ 1) := by
    rcases Nat.lt_or_ge 1 s.size with h3 | h3
    · exact .inl ⟨decide_eq_true (by omega), h3, beq_eq_false_iff_ne.2 (by have := hl h3; omega)⟩
    · exact .inr ⟨decide_eq_false (by omega), by omega⟩
  have HD := Lib.hid hd
  have HBB := Lib.hid hb
  clear hl hd hb
  have HS := Lib.hid (fun k r (h : k < s.size) (hr : s[k].toNat = 48 + r) => digV_step s k r h hr)
  have hD0 : digV s.data.toList 0 = 0 := rfl
  obtain ⟨D, hD⟩ : ∃ D, digV s.data.toList = D := ⟨_, rfl⟩
  simp only [hD] at HS hD0
  clear hD
  have HD0 := Lib.hid hD0
  clear hD0
  have q0 := boxNew w (.string ⟨#[]⟩) 59 _ rfl
  have b0 : Below w.heap.size w (w.alloc (.cells #[.string ⟨#[]⟩] 59)) := (Below.refl _ _).alloc (Nat.le_refl _) _
  have hsz0 : w.heap.size < (w.alloc (.cells #[.string ⟨#[]⟩] 59)).heap.size := by simp
  have HZ := Lib.hid (show natB 0 = ⟨#[]⟩ by simp [natB, n8_zero])
  rcases c2 with ⟨c4, c2, c3⟩ | ⟨c4, c2⟩
  all_goals
    go_enter Tryz.func71, Tryz.ntmps71
    go_wp2_with fail
    go_loopw [4, 27] (fun l t wr => ∃ (k n : Nat), k ≤ j ∧ n ≤ k ∧ t = .int .i64 (k : Int) ∧ wr.ownsRow (w.heap.size + 1) 139 1 l n (wdL (D k) n) ∧ Hid (nw (D k) ≤ n) ∧ (n = 0 → l = .slice none 0 0) ∧ wr.rowIs w.heap.size 59 1 (fun _ => .string ⟨#[]⟩) ∧ Below w.heap.size w wr ∧ w.heap.size + 1 ≤ wr.heap.size) (fun _ t _ => s.size - (intOf t).toNat)
    case atStart => exact ⟨0, 0, by omega, by omega, rfl, World.ownsRow_nil _ _ _ _, Lib.hid (by rw [HD0.out, nw_le]; decide), fun _ => rfl, q0, b0, hsz0⟩
    case round =>
      clear q0 b0 hsz0
      obtain ⟨k, n, hk, hn, rfl, ho, HNW, hnil, q1, b1, hs1⟩ := hrel
      have hlt : k < s.size := by omega
      rcases Nat.lt_or_ge k j with hkj | hkj
      · obtain ⟨e1, e2⟩ := HD.out k hkj hlt
        obtain ⟨r, hr⟩ : ∃ r, s[k].toNat = 48 + r := ⟨s[k].toNat - 48, by omega⟩
        have hr10 : r < 10 := by omega
        have hst := HS.out k r hlt hr
        have HST := Lib.hid hst
        have g1 : decide ((48 : Int) + (r : Int) < 48) = false := decide_eq_false (by omega)
        have g2 : decide ((57 : Int) < 48 + (r : Int)) = false := decide_eq_false (by omega)
        have g3 : (48 : Int) + (r : Int) - 48 = (r : Int) := by omega
        clear hst e1 e2
        rcases Nat.eq_zero_or_pos n with hn0 | hn0
        · subst hn0
          obtain rfl := hnil rfl
          have hD0k : D k = 0 := by have := (nw_le 0 (D k)).1 HNW.out; simpa using this
          have HDK := Lib.hid hD0k
          clear hD0k
          go_wp2_with fail
          refine (grow_nil _ (w.heap.size + 1) r hr10 hs1).mono ?_
          rintro e w2 ⟨v', n', rfl, hn1, hnw, ho2, hb2, hnl⟩
          have HNL := Lib.hid hnl
          have hnw2 : nw (D (k + 1)) ≤ n' := by rw [HST.out, HDK.out]; simpa using hnw
          have ho3 : w2.ownsRow (w.heap.size + 1) 139 1 v' n' (wdL (D (k + 1)) n') := by rw [HST.out, HDK.out]; simpa using ho2
          have HNW2 := Lib.hid hnw2
          have q2 := rowBelow q1 hb2
          have b2 := Cs.Below.trans' b1 hb2 b1.size
          have hs2 := hb2.size
          clear hnl hnw hnw2 hnil hr ho2 hb2
          go_wp2_with fail
          go_roundw
          case rel => exact ⟨k + 1, n', by omega, by omega, by go_num, ho3, HNW2, HNL.out, q2, b2, by omega⟩
          case measure => simp [intOf]; omega
        · obtain ⟨g, cap, rfl, hgb, hgl⟩ := ownsForm ho hn0
          go_wp2_with fail
          refine (grow_pos _ (w.heap.size + 1) n (D k) r g cap (by omega) hn0 hr10 HNW.out hs1 ho).mono ?_
          rintro e w2 ⟨v', n', rfl, hn1, hn2, hnw, ho2, hg2⟩
          have hnw2 : nw (D (k + 1)) ≤ n' := by rw [HST.out]; exact hnw
          rw [← HST.out] at ho2
          have HNW2 := Lib.hid hnw2
          have q2 := rowGrown q1 hg2 (by simp; omega)
          have b2 := belowGrown b1 hg2 b1.size (by omega)
          have hs2 := hg2.size
          clear hnw hnw2 hnil hr hg2
          go_wp2_with fail
          go_roundw
          case rel => exact ⟨k + 1, n', by omega, by omega, by go_num, ho2, HNW2, fun h => by omega, q2, b2, by omega⟩
          case measure => simp [intOf]; omega
      · obtain rfl : k = j := by omega
        have hbb := HBB.out
        obtain ⟨c, hc⟩ : ∃ c, s[k].toNat = c := ⟨_, rfl⟩
        rw [hc] at hbb
        have z1 := boxCell q1
        have z2 := q1.frozen 0
        rcases hbb with h5 | h5
        · have g1 : decide ((c : Int) < 48) = true := decide_eq_true (by omega)
          clear hnil
          go_wp2_with fail
          exact ret_natS rfl 0 rfl (by rw [HZ.out]; exact boxSet q1 _) rfl ⟨rfl, b1.setCell (Nat.le_refl _) _⟩
        · have g1 : decide ((c : Int) < 48) = false := decide_eq_false (by omega)
          have g2 : decide ((57 : Int) < (c : Int)) = true := decide_eq_true (by omega)
          clear hnil
          go_wp2_with fail
          exact ret_natS rfl 0 rfl (by rw [HZ.out]; exact boxSet q1 _) rfl ⟨rfl, b1.setCell (Nat.le_refl _) _⟩
set_option maxRecDepth 100000 in
set_option maxHeartbeats 1000000 in
/-- No byte, or too many, or a zero ahead. -/
theorem nread_len (w : World) (s : ByteArray) (h : s.size = 0 ∨ 2000 < s.size ∨ (s.size ≤ 2000 ∧ ∃ h : 1 < s.size, s[0].toNat = 48)) :
    Calls Tryz.prog 71 #[.string s] w fun e w' => e = .returned (.tuple #[natV 0, .bool false]) ∧ Below w.heap.size w w' := by
  have q0 := boxNew w (.string ⟨#[]⟩) 59 _ rfl
  have b0 : Below w.heap.size w (w.alloc (.cells #[.string ⟨#[]⟩] 59)) := (Below.refl _ _).alloc (Nat.le_refl _) _
  have HZ := Lib.hid (show natB 0 = ⟨#[]⟩ by simp [natB, n8_zero])
  rcases h with h | h | ⟨h, h1, h3⟩
  · have c0 : ((s.size : Int) == 0) = true := by simp [h]
    clear h
    go_enter Tryz.func71, Tryz.ntmps71
    go_wp2_with fail
    exact ret_natS rfl 0 rfl (by rw [HZ.out]; exact q0) rfl ⟨rfl, b0⟩
  · have c0 : ((s.size : Int) == 0) = false := beq_eq_false_iff_ne.2 (by omega)
    have c1 : decide ((2000 : Int) < (s.size : Int)) = true := decide_eq_true (by omega)
    go_enter Tryz.func71, Tryz.ntmps71
    go_wp2_with fail
    exact ret_natS rfl 0 rfl (by rw [HZ.out]; exact q0) rfl ⟨rfl, b0⟩
  · have c0 : ((s.size : Int) == 0) = false := beq_eq_false_iff_ne.2 (by omega)
    have c1 : decide ((2000 : Int) < (s.size : Int)) = false := decide_eq_false (by omega)
    have c4 : decide ((1 : Int) < (s.size : Int)) = true := decide_eq_true (by omega)
    have c3 : ((s[0].toNat : Int) == 48) = true := by simp [h3]
    clear h3
    go_enter Tryz.func71, Tryz.ntmps71
    go_wp2_with fail
    exact ret_natS rfl 0 rfl (by rw [HZ.out]; exact q0) rfl ⟨rfl, b0⟩
theorem nread_bad (w : World) (s : ByteArray) (h : ¬ IsNum s) :
    Calls Tryz.prog 71 #[.string s] w fun e w' => e = .returned (.tuple #[natV 0, .bool false]) ∧ Below w.heap.size w w' := by
  by_cases h0 : s.size = 0
  · exact nread_len w s (.inl h0)
  · by_cases h1 : 2000 < s.size
    · exact nread_len w s (.inr (.inl h1))
    · by_cases h2 : ∃ h : 1 < s.size, s[0].toNat = 48
      · exact nread_len w s (.inr (.inr ⟨by omega, h2⟩))
      · have hl : ∀ h : 1 < s.size, s[0].toNat ≠ 48 := fun h3 h4 => h2 ⟨h3, h4⟩
        have hex : ∃ j, ∃ h : j < s.size, ¬ (48 ≤ s[j].toNat ∧ s[j].toNat ≤ 57) := by
          refine Classical.byContradiction fun hno => h ⟨by omega, by omega, fun k hk => ?_, hl⟩
          exact Classical.byContradiction fun h3 => hno ⟨k, hk, h3⟩
        have hmin : ∀ m, (∃ j, j < m ∧ ∃ h : j < s.size, ¬ (48 ≤ s[j].toNat ∧ s[j].toNat ≤ 57)) → ∃ j, ∃ h : j < s.size, ¬ (48 ≤ s[j].toNat ∧ s[j].toNat ≤ 57) ∧ ∀ k, k < j → ∀ h : k < s.size, 48 ≤ s[k].toNat ∧ s[k].toNat ≤ 57 := fun m => by
          induction m with
          | zero => rintro ⟨j, hj, _⟩; omega
          | succ m ih =>
            rintro ⟨j, hj, hjs, hbad⟩
            by_cases hlow : ∃ j, j < m ∧ ∃ h : j < s.size, ¬ (48 ≤ s[j].toNat ∧ s[j].toNat ≤ 57)
            · exact ih hlow
            · refine ⟨j, hjs, hbad, fun k hk hks => Classical.byContradiction fun h3 => hlow ⟨k, by omega, hks, h3⟩⟩
        obtain ⟨j0, hj0, hb0⟩ := hex
        obtain ⟨j, hj, hb, hd⟩ := hmin (j0 + 1) ⟨j0, by omega, hj0, hb0⟩
        exact nread_byte w s j (by omega) (by omega) hl hj hd (by omega)
end Go.Proofs.YtgnobohfnhpkdaaGreatDoor
end
