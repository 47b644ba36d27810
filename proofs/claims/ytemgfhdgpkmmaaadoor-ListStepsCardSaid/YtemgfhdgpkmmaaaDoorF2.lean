/- The walk of ListFree. -/
import Derived.Test.YtemgfhdgpkmmaaaDoorW2
import Derived.Test.YtemgfhdgpkmmaaaDoorF1
import Derived.Deep.CutRange
set_option linter.unusedSimpArgs false
set_option linter.unusedVariables false
open Go Go.RowKit Cs
namespace Cs
/-- a without the variables behind m, up to the k-th. -/
def clr (a m k : Nat) : Nat := minus a (minus (allTo (k : Int)) (allTo (m : Int)))
theorem clr_bit (a m k i : Nat) (hk : k ≤ 128) (hm : m ≤ 128) : (clr a m k).testBit i = (a.testBit i && !(decide (m ≤ i) && decide (i < k))) := by
  unfold clr
  rw [minus_bit, minus_bit, allTo_bit, allTo_bit]
  have e1 : decide (i < (min (k : Int) 128).toNat) = decide (i < k) := decide_eq_decide.2 (by omega)
  have e2 : (!decide (i < (min (m : Int) 128).toNat)) = decide (m ≤ i) := by
    rw [← decide_not]; exact decide_eq_decide.2 (by omega)
  rw [e1, e2, Bool.and_comm (decide (i < k))]
theorem clr_start (a m : Nat) (hm : m ≤ 128) : clr a m m = a := by
  apply Nat.eq_of_testBit_eq; intro i
  rw [clr_bit a m m i hm hm]
  have : (decide (m ≤ i) && decide (i < m)) = false := by
    by_cases h : m ≤ i
    · rw [decide_eq_false (show ¬ i < m by omega), Bool.and_false]
    · rw [decide_eq_false h, Bool.false_and]
  rw [this]; simp
theorem clr_step (a m k : Nat) (hk : k < 128) (hm : m ≤ k) : clr a m (k + 1) = minus (clr a m k) (2 ^ k) := by
  apply Nat.eq_of_testBit_eq; intro i
  rw [clr_bit a m (k + 1) i (by omega) (by omega), minus_bit, clr_bit a m k i (by omega) (by omega), Nat.testBit_two_pow]
  rw [Bool.and_assoc]
  congr 1
  by_cases h : k = i
  · subst h; simp [hm]
  · rw [decide_eq_false h]
    have : decide (i < k + 1) = decide (i < k) := decide_eq_decide.2 (by omega)
    rw [this]; simp
theorem clr_end (a m : Nat) (ha : IsSet a) (hm : m ≤ 128) : clr a m 128 < 2 ^ m := by
  refine Nat.lt_pow_two_of_testBit _ fun i hi => ?_
  rw [clr_bit a m 128 i (Nat.le_refl _) hm, decide_eq_true hi, Bool.true_and]
  by_cases h : i < 128
  · rw [decide_eq_true h]; simp
  · rw [Nat.testBit_lt_two_pow (Nat.lt_of_lt_of_le (show a < 2 ^ 128 by unfold IsSet at ha; omega) (Nat.pow_le_pow_right (by decide) (by omega)))]; rfl
theorem word_bit (x k : Nat) (hx : x < 18446744073709551616) : (bits BinOp.and IntKind.u64 ((x : Int) / 2 ^ k) 1 == 1) = x.testBit k := by
  have h := u64_and_nat (x / 2 ^ k) 1 (Nat.lt_of_le_of_lt (Nat.div_le_self _ _) hx) (by decide)
  rw [Nat.and_one_is_mod, Int.natCast_ediv, Int.natCast_pow] at h
  simp only [Int.cast_ofNat_Int] at h
  rw [h, Nat.testBit_eq_decide_div_mod_eq]
  rcases Nat.mod_two_eq_zero_or_one (x / 2 ^ k) with h1 | h1 <;> rw [h1] <;> rfl
end Cs
namespace Go.Proofs.YtemgfhdgpkmmaaaDoor
theorem rowA {w : World} {g s : Nat} {t : TypeId} (h : w.rowIs g t 2 (setF s)) : w.rowIs g t 2 (arrF #[.int .u64 (lo s : Int), .int .u64 (hi s : Int)]) := h.congr fun i hi2 => by
  have : i = 0 ∨ i = 1 := by omega
  rcases this with rfl | rfl <;> rfl
theorem _root_.Cs.Bag.set0 {w w0 wr : World} {D b : Nat} {t : TypeId} {a : Array Value} {R : List (Nat × TypeId × Nat × Array Value)} (h : Bag w w0 D ((b, t, 1, a) :: R) wr) (hf : D ≤ b ∧ ∀ r ∈ R, r.1 ≠ b) (v : Value) : Bag w w0 D ((b, t, 1, #[v]) :: R) (wr.setCell ⟨b, 0, none⟩ v) :=
  (h.tail.other hf.1 hf.2 0 v).cons (oneRow h.row0 v)
theorem free_lerr (m b : Nat) (hm : m ≤ 128) (hb : b < 2 ^ m) : lerr (trueN m) b = 0 := by
  have h : minus b (allTo (m : Int)) = 0 := by
    apply Nat.eq_of_testBit_eq; intro i
    rw [minus_bit, allTo_bit, Nat.zero_testBit]
    by_cases h : i < m
    · rw [decide_eq_true (show i < (min (m : Int) 128).toNat by omega)]; simp
    · rw [in_bit (In.of_lt hb) (by omega)]; rfl
  unfold lerr
  rw [trueN_vld m hm, trueN_dcmp, show decide (minus b (allTo (trueN m).n) = 0) = true from decide_eq_true h]
  rfl
theorem free_rerr (m b : Nat) (hm : m ≤ 128) (hb : b < 2 ^ m) : rerr (trueN m) b = 0 := by
  unfold rerr
  rw [if_pos (free_lerr m b hm hb)]
  unfold cchk
  rw [if_pos (trueN_vld m hm), if_pos (trueN_dcmp m), if_pos (trueN_short m)]
theorem free_rank (m b : Nat) (hm : m ≤ 128) (hb : b < 2 ^ m) : rkR (trueN m) b = .tuple #[natV (hor b m), .int .i64 0] := by
  unfold rkR
  rw [if_pos (free_rerr m b hm hb), trueN_rank m b hm hb]
theorem free_at (m b : Nat) (hm : m ≤ 128) (hb : b < 2 ^ m) : atR (trueN m) (hor b m) = .tuple #[setV b, .bool true, .int .i64 0] := by
  unfold atR skV
  rw [if_pos (free_rerr m 0 hm (Nat.two_pow_pos m)), trueN_at m b hm hb]
theorem free_none (m : Nat) (hm : m ≤ 128) : atR (trueN m) (2 ^ m) = .tuple #[setV 0, .bool false, .int .i64 0] := by
  unfold atR skV
  rw [if_pos (free_rerr m 0 hm (Nat.two_pow_pos m)), trueN_none m hm]
theorem free_seek (m b : Nat) (hm : m ≤ 128) (hb : b < 2 ^ m) : skR (trueN m) b = .tuple #[setV b, .bool true, .int .i64 0] := by
  unfold skR skV seekN
  rw [if_pos (free_lerr m b hm hb), if_pos (trueN_ev m b)]
theorem lt_isSet {m b : Nat} (hm : m ≤ 128) (hb : b < 2 ^ m) : IsSet b := by
  have : b < 2 ^ 128 := Nat.lt_of_lt_of_le hb (Nat.pow_le_pow_right (by decide) hm)
  unfold IsSet; omega
theorem fr_rank (W : World) (m b g : Nat) (hm : m ≤ 128) (hb : b < 2 ^ m) (h : NtAt W W.heap.size (some ⟨g, 0, none⟩) (trueN m).l) (hT : Tab W) : Calls Tryd.prog 22 #[ntV (trueN m) (some ⟨g, 0, none⟩) 1, setV b] W fun e w' => e = .returned (.tuple #[natV (hor b m), .int .i64 0]) ∧ Below W.heap.size W w' := by
  rw [← free_rank m b hm hb]
  exact rank_any W (trueN m) _ 1 b (by show 1 ≤ 140737488355328; decide) h (lt_isSet hm hb) hT
theorem fr_at (W : World) (m b g : Nat) (hm : m ≤ 128) (hb : b < 2 ^ m) (h : NtAt W W.heap.size (some ⟨g, 0, none⟩) (trueN m).l) (hT : Tab W) : Calls Tryd.prog 23 #[ntV (trueN m) (some ⟨g, 0, none⟩) 1, natV (hor b m)] W fun e w' => e = .returned (.tuple #[setV b, .bool true, .int .i64 0]) ∧ Below W.heap.size W w' := by
  rw [← free_at m b hm hb]
  exact at_any W (trueN m) _ 1 _ (by show 1 ≤ 140737488355328; decide) h (Nat.le_trans (n8_mono (Nat.le_of_lt (hor_lt b m))) (n8_pow2 m (by omega))) hT
theorem fr_none (W : World) (m g : Nat) (hm : m ≤ 128) (h : NtAt W W.heap.size (some ⟨g, 0, none⟩) (trueN m).l) (hT : Tab W) : Calls Tryd.prog 23 #[ntV (trueN m) (some ⟨g, 0, none⟩) 1, natV (2 ^ m)] W fun e w' => e = .returned (.tuple #[setV 0, .bool false, .int .i64 0]) ∧ Below W.heap.size W w' := by
  rw [← free_none m hm]
  exact at_any W (trueN m) _ 1 _ (by show 1 ≤ 140737488355328; decide) h (n8_pow2 m (by omega)) hT
theorem fr_seek (W : World) (m b g : Nat) (hm : m ≤ 128) (hb : b < 2 ^ m) (h : NtAt W W.heap.size (some ⟨g, 0, none⟩) (trueN m).l) (hT : Tab W) : Calls Tryd.prog 14 #[ntV (trueN m) (some ⟨g, 0, none⟩) 1, setV b] W fun e w' => e = .returned (.tuple #[setV b, .bool true, .int .i64 0]) ∧ Below W.heap.size W w' := by
  rw [← free_seek m b hm hb]
  exact seek_any W (trueN m) _ 1 b (by show 1 ≤ 140737488355328; decide) h (lt_isSet hm hb) hT
theorem free_of1 (W : World) : Calls Tryd.prog 20 #[.int .u64 1] W fun e w' => e = .returned (natV 1) ∧ Below W.heap.size W w' := of_any W 1 (by decide)
theorem hor_n8 (b k : Nat) (hk : k ≤ 128) : n8 (hor b k) ≤ 1000000 := Nat.le_trans (n8_mono (Nat.le_of_lt (hor_lt b k))) (n8_pow2 k (by omega))
theorem trueN_lies {w : World} {B g : Nat} {t : TypeId} (m : Nat) (hg : g < B) (hr : w.rowIs g t 3 (arrF #[.int .i64 1, .int .i64 0, .slice none 0 0])) : NtAt w B (some ⟨g, 0, none⟩) (trueN m).l := fun _ => by
  refine ⟨g, 0, rfl, hg, fun i hi => ?_⟩
  match i, hi with
  | 0, _ => exact ⟨hr.cell (i := 0) (by decide), hr.cell (i := 1) (by decide), ⟨none, 0, hr.cell (i := 2) (by decide), Rd.zero _ _ _ _⟩, (show r64 (1) by unfold r64; decide), (show r64 (0) by unfold r64; decide), (show ∀ i ∈ ([] : List Int), r64 i by unfold r64; decide), (show ([] : List Int).length ≤ 140737488355328 by decide)⟩
set_option maxRecDepth 100000 in
set_option maxHeartbeats 4000000 in
theorem free_any (w : World) (n a : Nat) (hn : n < 256) (ha : IsSet a) (hT : Tab w) : Calls Tryd.prog 5 #[.int .u8 (n : Int), setV a] w fun e w' => e = .returned (.bool true) ∧ Below w.heap.size w w' := by
  obtain ⟨m, hm⟩ : ∃ m, n % 129 = m := ⟨_, rfl⟩
  have hm128 : m ≤ 128 := by omega
  have hmi : (n : Int) % 129 = (m : Int) := by omega
  have hq0 := setNew w a 27 w.heap.size rfl
  have hb0 : Below w.heap.size w (w.alloc (.cells #[.int .u64 (lo a : Int), .int .u64 (hi a : Int)] 27)) := (Below.refl _ _).alloc (Nat.le_refl _) _
  clear hm
  go_enter Tryd.func5, Tryd.ntmps5
  go_wp2
  go_loopw [6] (fun t wr => ∃ k : Nat, m ≤ k ∧ k ≤ 128 ∧ t = .int .i64 ((k : Int) + 1) ∧ wr.rowIs w.heap.size 27 2 (setF (clr a m k)) ∧ Below w.heap.size w wr) (fun t _ => 129 - (intOf t).toNat)
  case atStart => exact ⟨m, Nat.le_refl _, hm128, rfl, by rw [clr_start a m hm128]; exact hq0, hb0⟩
  case round =>
    clear hq0 hb0
    obtain ⟨k, hk1, hk2, rfl, hr, hb⟩ := hrel
    by_cases hlt : k < 128
    · have hst := clr_step a m k hlt hk1
      obtain ⟨s, hs⟩ : ∃ s, clr a m k = s := ⟨_, rfl⟩
      rw [hs] at hst hr
      have HST := Lib.hid hst
      obtain ⟨c1, c2, f1, f2⟩ := setCells hr
      clear hst hs
      by_cases h64 : k < 64
      · have e1 : (k : Int) / 64 = 0 := by omega
        have e2 : k % 64 = k := by omega
        have e3 := wrap_two k (by omega)
        have h2 : lo (2 ^ k) = 2 ^ k := by rw [lo_two, if_pos h64]
        have h1 := u64_andNot_nat (lo s) (lo (2 ^ k)) (lo_lt _) (lo_lt _)
        rw [← lo_minus, h2, show ((2 ^ k : Nat) : Int) = (2 : Int) ^ k by simp] at h1
        have h3 : hi (minus s (2 ^ k)) = hi s := by
          rw [hi_minus, hi_two _ (by omega), if_pos h64, Nat.sub_zero]
          exact (Nat.and_two_pow_sub_one_eq_mod (hi s) 64).trans (Nat.mod_eq_of_lt (hi_lt s))
        have HX := Lib.hid h1
        have H3 := Lib.hid h3
        clear h1 h2 h3
        go_wp2
        rw [HX.out]
        go_roundw
        case rel =>
          refine ⟨k + 1, by omega, by omega, by go_num, (hr.set 0 _).congr fun i hi2 => ?_, hb.setCell (Nat.le_refl _) _⟩
          rw [HST.out]
          have : i = 0 ∨ i = 1 := by omega
          rcases this with rfl | rfl
          · rfl
          · show Value.int .u64 (hi s : Int) = .int .u64 (hi (minus s (2 ^ k)) : Int)
            rw [H3.out]
        case measure => simp [intOf]; omega
      · have e1 : (k : Int) / 64 = 1 := by omega
        have e2 : k % 64 = k - 64 := by omega
        have e3 := wrap_two (k - 64) (by omega)
        have h2 : hi (2 ^ k) = 2 ^ (k - 64) := by rw [hi_two _ (by omega), if_neg h64]
        have h1 := u64_andNot_nat (hi s) (hi (2 ^ k)) (hi_lt _) (hi_lt _)
        rw [← hi_minus, h2, show ((2 ^ (k - 64) : Nat) : Int) = (2 : Int) ^ (k - 64) by simp] at h1
        have h3 : lo (minus s (2 ^ k)) = lo s := by
          rw [lo_minus, lo_two, if_neg h64, Nat.sub_zero]
          exact (Nat.and_two_pow_sub_one_eq_mod (lo s) 64).trans (Nat.mod_eq_of_lt (lo_lt s))
        have HX := Lib.hid h1
        have H3 := Lib.hid h3
        clear h1 h2 h3
        go_wp2
        rw [HX.out]
        go_roundw
        case rel =>
          refine ⟨k + 1, by omega, by omega, by go_num, (hr.set 1 _).congr fun i hi2 => ?_, hb.setCell (Nat.le_refl _) _⟩
          rw [HST.out]
          have : i = 0 ∨ i = 1 := by omega
          rcases this with rfl | rfl
          · show Value.int .u64 (lo s : Int) = .int .u64 (lo (minus s (2 ^ k)) : Int)
            rw [H3.out]
          · rfl
        case measure => simp [intOf]; omega
    · obtain rfl : k = 128 := by omega
      obtain ⟨u, rfl⟩ : ∃ u, u = wr := ⟨wr, rfl⟩
      have hb2 := clr_end a m ha hm128
      obtain ⟨b, hbb⟩ : ∃ b, clr a m 128 = b := ⟨_, rfl⟩
      rw [hbb] at hr hb2
      have q2 := (((Bag.start hb).cons (rowA hr)).new #[.int .i64 1, .int .i64 0, .slice none 0 0] 41 u.heap.size 3 rfl rfl).new #[.int .i64 (m : Int), .slice (some ⟨u.heap.size, 0, none⟩) 1 1] 24 (u.heap.size + 1) 2 (by simp) rfl
      have hnt := trueN_lies (B := u.heap.size + 1 + 1) m (by omega) q2.tail.row0
      have q3 := q2.rebase
      obtain ⟨V, hV⟩ : ∃ V, (u.alloc (.cells #[.int .i64 1, .int .i64 0, .slice none 0 0] 41)).alloc (.cells #[.int .i64 (m : Int), .slice (some ⟨u.heap.size, 0, none⟩) 1 1] 24) = V := ⟨_, rfl⟩
      have hVz : u.heap.size + 1 + 1 = V.heap.size := by rw [← hV]; simp
      rw [hV] at q3 hnt
      rw [hVz] at hnt
      have HNT := Lib.hid (fun W (hb : Below V.heap.size V W) => (hnt.below hb).more hb.size)
      have hTV : Tab V := by rw [← hV]; exact (hT.below hb).below (((Below.refl _ _).alloc (Nat.le_refl _) _).alloc (by simp) _)
      have HTB := Lib.hid (fun W (hb : Below V.heap.size V W) => hTV.below hb)
      have HV := Lib.hid hV
      clear hnt q2 hV hVz hTV
      go_wp2_with fail
      rw [HV.out]
      refine (of_any _ 0 (by decide)).mono ?_
      rintro e w5 ⟨rfl, hb5⟩
      have HF := Lib.hid (q3.below hb5).fresh
      have q4 := (q3.below hb5).new #[.string (natB (hor b 0))] 43 w5.heap.size 1 rfl rfl
      have HQ4 := Lib.hid q4
      clear q3 q4 hb5
      go_wp2_with fail
      go_loopw [9] (fun t wq => ∃ k : Nat, k ≤ m ∧ t = .int .i64 ((k : Int) + 1) ∧ Bag w V V.heap.size [(w5.heap.size, 43, 1, #[.string (natB (hor b k))]), (u.heap.size + 1, 24, 2, #[.int .i64 (m : Int), .slice (some ⟨u.heap.size, 0, none⟩) 1 1]), (u.heap.size, 41, 3, #[.int .i64 1, .int .i64 0, .slice none 0 0]), (w.heap.size, 27, 2, #[.int .u64 (lo b : Int), .int .u64 (hi b : Int)])] wq) (fun t _ => m + 1 - (intOf t).toNat)
      case atStart => exact ⟨0, by omega, rfl, HQ4.out⟩
      case round =>
        clear HQ4
        obtain ⟨k, hk, rfl, q⟩ := hrel
        by_cases hlt : k < m
        · have hz := hor_n8 b k (by omega)
          have HZ2 : n8 (hor b k + hor b k) ≤ 1000000 := Nat.le_trans (n8_mono (show hor b k + hor b k ≤ 2 ^ (k + 1) by have := hor_lt b k; rw [Nat.pow_succ]; omega)) (n8_pow2 (k + 1) (by omega))
          obtain ⟨h, hh⟩ : ∃ h, hor b k = h := ⟨_, rfl⟩
          rw [hh] at q hz HZ2
          have hst : hor b (k + 1) = 2 * h + (if b.testBit k then 1 else 0) := by rw [← hh]; rfl
          have HST := Lib.hid hst
          have s1 := q.is0 0 (by decide) (.string (natB h)) rfl
          have s2 := q.row0.frozen 0
          clear hst hh
          have hz2 : n8 (h + h) ≤ 1000000 := HZ2
          have hz3 : n8 1 ≤ 1000000 := by decide +kernel
          by_cases h64 : k < 64
          · have e1 : (k : Int) / 64 = 0 := by omega
            have e2 : k % 64 = k := by omega
            have hwb := word_bit (lo b) k (lo_lt b)
            rw [lo_bit, decide_eq_true (show k < 64 by omega), Bool.true_and] at hwb
            obtain ⟨C, hC⟩ : ∃ C, b.testBit k = C := ⟨_, rfl⟩
            rw [hC] at hwb HST
            clear hC
            cases C
            · have hx := HST.out.trans (show 2 * h + (if false = true then 1 else 0) = h + h by simp; omega)
              have HX := Lib.hid hx
              clear hx
              go_wp2_with (go_at_call 21; (with_reducible refine (add_any _ h h hz hz).mono ?_); rintro e w7 ⟨rfl, hb7⟩; have q5 := q.below hb7; have s3 := q5.is0 0 (by decide) (.string (natB h)) rfl; have s4 := q5.row0.frozen 0; have q6 := q5.set0 HF.out (.string (natB (h + h))); have a1 := q6.is w.heap.size 2 27 #[.int .u64 (lo b : Int), .int .u64 (hi b : Int)] (by simp) 0 (by decide) (.int .u64 (lo b : Int)) rfl; have a2 := q6.is w.heap.size 2 27 #[.int .u64 (lo b : Int), .int .u64 (hi b : Int)] (by simp) 1 (by decide) (.int .u64 (hi b : Int)) rfl; have s5 := q6.is0 0 (by decide) (.string (natB (h + h))) rfl)
              go_roundw
              case rel => exact ⟨k + 1, by omega, by go_num, by rw [HX.out]; exact q6⟩
              case measure => simp [intOf]; omega
            · have hx := HST.out.trans (show 2 * h + (if true = true then 1 else 0) = h + h + 1 by simp; omega)
              have HX := Lib.hid hx
              clear hx
              go_wp2_with (go_at_call 21; (with_reducible refine (add_any _ h h hz hz).mono ?_); rintro e w7 ⟨rfl, hb7⟩; have q5 := q.below hb7; have s3 := q5.is0 0 (by decide) (.string (natB h)) rfl; have s4 := q5.row0.frozen 0; have q6 := q5.set0 HF.out (.string (natB (h + h))); have a1 := q6.is w.heap.size 2 27 #[.int .u64 (lo b : Int), .int .u64 (hi b : Int)] (by simp) 0 (by decide) (.int .u64 (lo b : Int)) rfl; have a2 := q6.is w.heap.size 2 27 #[.int .u64 (lo b : Int), .int .u64 (hi b : Int)] (by simp) 1 (by decide) (.int .u64 (hi b : Int)) rfl; have s5 := q6.is0 0 (by decide) (.string (natB (h + h))) rfl)
              generalize w7.setCell ⟨w5.heap.size, 0, none⟩ (.string (natB (h + h))) = W7 at q6 ⊢
              replace q6 := q6.drew
              have s5 := q6.is0 0 (by decide) (.string (natB (h + h))) rfl
              have s6 := q6.row0.frozen 0
              refine wp_region_heldE (fun w' => w'.cell? ⟨w5.heap.size, 0, none⟩ = some (Value.string (natB (h + h)))) 3 (by kernel_rfl) s5 (fun hS => ?_)
              refine wpAnyE_take (i := 0) (v := ?_) hS (by kernel_rfl) rfl (by kernel_rfl) (by kernel_rfl) (fun _ _ _ h => h) (Or.inl ⟨by rfl, ?_⟩) ?_
              rotate_left
              · (intro w hSw; go_simp; try with_reducible rfl)
              try simp only [Act.put, List.getElem_toArray, List.getElem_cons_succ, List.getElem_cons_zero, List.setIfInBounds_toArray, List.set_cons_zero, List.set_cons_succ]
              refine wpAnyE_one 1 (by kernel_rfl) rfl (fun K hK => ?_)
              go_simp
              go_at_call 20
              (with_reducible refine (free_of1 _).mono ?_)
              rintro e w8 ⟨rfl, hb8⟩
              replace q6 := q6.below hb8
              have s5 := q6.is0 0 (by decide) (.string (natB (h + h))) rfl
              have s6 := q6.row0.frozen 0
              refine hK.out _ _ (fun _ => s5) (fun hS => ?_)
              replace hS := hS (by decide)
              clear hK K
              try simp only [Act.put, List.getElem_toArray, List.getElem_cons_succ, List.getElem_cons_zero, List.setIfInBounds_toArray, List.set_cons_zero, List.set_cons_succ]
              refine wpAnyE_one 2 (by kernel_rfl) rfl (fun K hK => ?_)
              go_simp
              go_at_call 21
              (with_reducible refine (add_any _ (h + h) 1 hz2 hz3).mono ?_)
              rintro e w9 ⟨rfl, hb9⟩
              replace q6 := q6.below hb9
              have s5 := q6.is0 0 (by decide) (.string (natB (h + h))) rfl
              have s6 := q6.row0.frozen 0
              refine hK.out _ _ (fun _ => s5) (fun hS => ?_)
              replace hS := hS (by decide)
              clear hK K
              try simp only [Act.put, List.getElem_toArray, List.getElem_cons_succ, List.getElem_cons_zero, List.setIfInBounds_toArray, List.set_cons_zero, List.set_cons_succ]
              refine wpAnyE_one 3 (by kernel_rfl) rfl (fun K hK => ?_)
              go_simp
              refine hK.out _ _ (fun h => absurd rfl h) (fun _ => ?_)
              clear hK K
              refine wpAnyE_done (by kernel_rfl) ?_ _
              go_wp2
              go_roundw
              case rel => exact ⟨k + 1, by omega, by go_num, by rw [HX.out]; exact q6.set0 HF.out _⟩
              case measure => simp [intOf]; omega
          · have e1 : (k : Int) / 64 = 1 := by omega
            have e2 : k % 64 = k - 64 := by omega
            have hwb := word_bit (hi b) (k - 64) (hi_lt b)
            rw [hi_bit, decide_eq_true (show (k - 64) < 64 by omega), Bool.true_and, show k - 64 + 64 = k by omega] at hwb
            obtain ⟨C, hC⟩ : ∃ C, b.testBit k = C := ⟨_, rfl⟩
            rw [hC] at hwb HST
            clear hC
            cases C
            · have hx := HST.out.trans (show 2 * h + (if false = true then 1 else 0) = h + h by simp; omega)
              have HX := Lib.hid hx
              clear hx
              go_wp2_with (go_at_call 21; (with_reducible refine (add_any _ h h hz hz).mono ?_); rintro e w7 ⟨rfl, hb7⟩; have q5 := q.below hb7; have s3 := q5.is0 0 (by decide) (.string (natB h)) rfl; have s4 := q5.row0.frozen 0; have q6 := q5.set0 HF.out (.string (natB (h + h))); have a1 := q6.is w.heap.size 2 27 #[.int .u64 (lo b : Int), .int .u64 (hi b : Int)] (by simp) 0 (by decide) (.int .u64 (lo b : Int)) rfl; have a2 := q6.is w.heap.size 2 27 #[.int .u64 (lo b : Int), .int .u64 (hi b : Int)] (by simp) 1 (by decide) (.int .u64 (hi b : Int)) rfl; have s5 := q6.is0 0 (by decide) (.string (natB (h + h))) rfl)
              go_roundw
              case rel => exact ⟨k + 1, by omega, by go_num, by rw [HX.out]; exact q6⟩
              case measure => simp [intOf]; omega
            · have hx := HST.out.trans (show 2 * h + (if true = true then 1 else 0) = h + h + 1 by simp; omega)
              have HX := Lib.hid hx
              clear hx
              go_wp2_with (go_at_call 21; (with_reducible refine (add_any _ h h hz hz).mono ?_); rintro e w7 ⟨rfl, hb7⟩; have q5 := q.below hb7; have s3 := q5.is0 0 (by decide) (.string (natB h)) rfl; have s4 := q5.row0.frozen 0; have q6 := q5.set0 HF.out (.string (natB (h + h))); have a1 := q6.is w.heap.size 2 27 #[.int .u64 (lo b : Int), .int .u64 (hi b : Int)] (by simp) 0 (by decide) (.int .u64 (lo b : Int)) rfl; have a2 := q6.is w.heap.size 2 27 #[.int .u64 (lo b : Int), .int .u64 (hi b : Int)] (by simp) 1 (by decide) (.int .u64 (hi b : Int)) rfl; have s5 := q6.is0 0 (by decide) (.string (natB (h + h))) rfl)
              generalize w7.setCell ⟨w5.heap.size, 0, none⟩ (.string (natB (h + h))) = W7 at q6 ⊢
              replace q6 := q6.drew
              have s5 := q6.is0 0 (by decide) (.string (natB (h + h))) rfl
              have s6 := q6.row0.frozen 0
              refine wp_region_heldE (fun w' => w'.cell? ⟨w5.heap.size, 0, none⟩ = some (Value.string (natB (h + h)))) 3 (by kernel_rfl) s5 (fun hS => ?_)
              refine wpAnyE_take (i := 0) (v := ?_) hS (by kernel_rfl) rfl (by kernel_rfl) (by kernel_rfl) (fun _ _ _ h => h) (Or.inl ⟨by rfl, ?_⟩) ?_
              rotate_left
              · (intro w hSw; go_simp; try with_reducible rfl)
              try simp only [Act.put, List.getElem_toArray, List.getElem_cons_succ, List.getElem_cons_zero, List.setIfInBounds_toArray, List.set_cons_zero, List.set_cons_succ]
              refine wpAnyE_one 1 (by kernel_rfl) rfl (fun K hK => ?_)
              go_simp
              go_at_call 20
              (with_reducible refine (free_of1 _).mono ?_)
              rintro e w8 ⟨rfl, hb8⟩
              replace q6 := q6.below hb8
              have s5 := q6.is0 0 (by decide) (.string (natB (h + h))) rfl
              have s6 := q6.row0.frozen 0
              refine hK.out _ _ (fun _ => s5) (fun hS => ?_)
              replace hS := hS (by decide)
              clear hK K
              try simp only [Act.put, List.getElem_toArray, List.getElem_cons_succ, List.getElem_cons_zero, List.setIfInBounds_toArray, List.set_cons_zero, List.set_cons_succ]
              refine wpAnyE_one 2 (by kernel_rfl) rfl (fun K hK => ?_)
              go_simp
              go_at_call 21
              (with_reducible refine (add_any _ (h + h) 1 hz2 hz3).mono ?_)
              rintro e w9 ⟨rfl, hb9⟩
              replace q6 := q6.below hb9
              have s5 := q6.is0 0 (by decide) (.string (natB (h + h))) rfl
              have s6 := q6.row0.frozen 0
              refine hK.out _ _ (fun _ => s5) (fun hS => ?_)
              replace hS := hS (by decide)
              clear hK K
              try simp only [Act.put, List.getElem_toArray, List.getElem_cons_succ, List.getElem_cons_zero, List.setIfInBounds_toArray, List.set_cons_zero, List.set_cons_succ]
              refine wpAnyE_one 3 (by kernel_rfl) rfl (fun K hK => ?_)
              go_simp
              refine hK.out _ _ (fun h => absurd rfl h) (fun _ => ?_)
              clear hK K
              refine wpAnyE_done (by kernel_rfl) ?_ _
              go_wp2
              go_roundw
              case rel => exact ⟨k + 1, by omega, by go_num, by rw [HX.out]; exact q6.set0 HF.out _⟩
              case measure => simp [intOf]; omega
        · obtain rfl : k = m := by omega
          have x1 := q.is (u.heap.size + 1) 2 24 #[.int .i64 (k : Int), .slice (some ⟨u.heap.size, 0, none⟩) 1 1] (by simp) 0 (by decide) (.int .i64 (trueN k).n) rfl
          have x2 := q.is (u.heap.size + 1) 2 24 #[.int .i64 (k : Int), .slice (some ⟨u.heap.size, 0, none⟩) 1 1] (by simp) 1 (by decide) (.slice (some ⟨u.heap.size, 0, none⟩) (trueN k).l.length 1) rfl
          have x3 := q.is (w.heap.size) 2 27 #[.int .u64 (lo b : Int), .int .u64 (hi b : Int)] (by simp) 0 (by decide) (.int .u64 (lo b : Int)) rfl
          have x4 := q.is (w.heap.size) 2 27 #[.int .u64 (lo b : Int), .int .u64 (hi b : Int)] (by simp) 1 (by decide) (.int .u64 (hi b : Int)) rfl
          have x5 := q.is (w5.heap.size) 1 43 #[.string (natB (hor b k))] (by simp) 0 (by decide) (.string (natB (hor b k))) rfl
          go_wp2_with fail
          refine (fr_rank _ k b u.heap.size hm128 hb2 (HNT.out _ q.base) (HTB.out _ q.base)).mono ?_
          rintro e w6 ⟨rfl, hb6⟩
          have q2 := (q.below hb6).new #[.string (natB (hor b k))] 43 w6.heap.size 1 rfl rfl
          have y1 := q2.is (u.heap.size + 1) 2 24 #[.int .i64 (k : Int), .slice (some ⟨u.heap.size, 0, none⟩) 1 1] (by simp) 0 (by decide) (.int .i64 (trueN k).n) rfl
          have y2 := q2.is (u.heap.size + 1) 2 24 #[.int .i64 (k : Int), .slice (some ⟨u.heap.size, 0, none⟩) 1 1] (by simp) 1 (by decide) (.slice (some ⟨u.heap.size, 0, none⟩) (trueN k).l.length 1) rfl
          have y3 := q2.is (w.heap.size) 2 27 #[.int .u64 (lo b : Int), .int .u64 (hi b : Int)] (by simp) 0 (by decide) (.int .u64 (lo b : Int)) rfl
          have y4 := q2.is (w.heap.size) 2 27 #[.int .u64 (lo b : Int), .int .u64 (hi b : Int)] (by simp) 1 (by decide) (.int .u64 (hi b : Int)) rfl
          have y5 := q2.is (w5.heap.size) 1 43 #[.string (natB (hor b k))] (by simp) 0 (by decide) (.string (natB (hor b k))) rfl
          go_wp2_with fail
          refine (fr_at _ k b u.heap.size hm128 hb2 (HNT.out _ q2.base) (HTB.out _ q2.base)).mono ?_
          rintro e w7 ⟨rfl, hb7⟩
          have q3 := (q2.below hb7).new #[.int .u64 (lo b : Int), .int .u64 (hi b : Int)] 27 w7.heap.size 2 rfl rfl
          have z1 := q3.is (u.heap.size + 1) 2 24 #[.int .i64 (k : Int), .slice (some ⟨u.heap.size, 0, none⟩) 1 1] (by simp) 0 (by decide) (.int .i64 (trueN k).n) rfl
          have z2 := q3.is (u.heap.size + 1) 2 24 #[.int .i64 (k : Int), .slice (some ⟨u.heap.size, 0, none⟩) 1 1] (by simp) 1 (by decide) (.slice (some ⟨u.heap.size, 0, none⟩) (trueN k).l.length 1) rfl
          have z3 := q3.is (w.heap.size) 2 27 #[.int .u64 (lo b : Int), .int .u64 (hi b : Int)] (by simp) 0 (by decide) (.int .u64 (lo b : Int)) rfl
          have z4 := q3.is (w.heap.size) 2 27 #[.int .u64 (lo b : Int), .int .u64 (hi b : Int)] (by simp) 1 (by decide) (.int .u64 (hi b : Int)) rfl
          have z5 := q3.is (w5.heap.size) 1 43 #[.string (natB (hor b k))] (by simp) 0 (by decide) (.string (natB (hor b k))) rfl
          go_wp2_with fail
          refine (fr_seek _ k b u.heap.size hm128 hb2 (HNT.out _ q3.base) (HTB.out _ q3.base)).mono ?_
          rintro e w8 ⟨rfl, hb8⟩
          have q4 := (q3.below hb8).new #[.int .u64 (lo b : Int), .int .u64 (hi b : Int)] 27 w8.heap.size 2 rfl rfl
          clear x1 x2 x3 x4 x5 y1 y2 y3 y4 y5 z1 z2 z3 z4 z5
          go_wp2_with fail
          generalize w8.alloc (.cells #[.int .u64 (lo b : Int), .int .u64 (hi b : Int)] 27) = W8 at q4 ⊢
          have hpw : ∀ W, Calls Tryd.prog 24 #[.int .i64 (k : Int)] W fun e w' => e = .returned (natV (2 ^ k)) ∧ Below W.heap.size W w' := fun W => by
            have h := pow2_yes W (k : Int) (by omega) (by omega)
            rw [Int.toNat_natCast] at h
            exact h
          have HPW := Lib.hid hpw
          clear hpw
          go_cut [18, 19, 20] from 90 to 97 (fun p x y wx => ∃ X, p = .pointer (some ⟨X, 0, none⟩) ∧ x = .bool false ∧ y = .int .i64 0 ∧ Bag w V V.heap.size ((X, 27, 2, #[.int .u64 (lo 0 : Int), .int .u64 (hi 0 : Int)]) :: [(w8.heap.size, 27, 2, #[.int .u64 (lo b : Int), .int .u64 (hi b : Int)]), (w7.heap.size, 27, 2, #[.int .u64 (lo b : Int), .int .u64 (hi b : Int)]), (w6.heap.size, 43, 1, #[.string (natB (hor b k))]), (w5.heap.size, 43, 1, #[.string (natB (hor b k))]), (u.heap.size + 1, 24, 2, #[.int .i64 (k : Int), .slice (some ⟨u.heap.size, 0, none⟩) 1 1]), (u.heap.size, 41, 3, #[.int .i64 1, .int .i64 0, .slice none 0 0]), (w.heap.size, 27, 2, #[.int .u64 (lo b : Int), .int .u64 (hi b : Int)])]) wx)
          case first =>
            have q6 := q4.drew
            have hz := (q4.new #[.int .u64 0, .int .u64 0] 27 _ 2 rfl rfl).row0.drew
            have hX0 := q4.fresh
            have m1 := q6.is (u.heap.size + 1) 2 24 #[.int .i64 (k : Int), .slice (some ⟨u.heap.size, 0, none⟩) 1 1] (by simp) 0 (by decide) (Value.int .i64 (trueN k).n) rfl
            have m2 := q6.is (u.heap.size + 1) 2 24 #[.int .i64 (k : Int), .slice (some ⟨u.heap.size, 0, none⟩) 1 1] (by simp) 1 (by decide) (Value.slice (some ⟨u.heap.size, 0, none⟩) (trueN k).l.length 1) rfl
            go_region_held3 (fun w' => w'.cell? ⟨u.heap.size + 1, 0, none⟩ = some (Value.int .i64 (trueN k).n) ∧ w'.cell? ⟨u.heap.size + 1, 1, none⟩ = some (Value.slice (some ⟨u.heap.size, 0, none⟩) (trueN k).l.length 1))
              (first | exact ⟨m1, m2⟩ | exact ⟨putFar N1.out m1, putFar N1.out m2⟩ | exact ⟨(q4.alloc _).drew.is (u.heap.size + 1) 2 24 #[.int .i64 (k : Int), .slice (some ⟨u.heap.size, 0, none⟩) 1 1] (by simp) 0 (by decide) (Value.int .i64 (trueN k).n) rfl, (q4.alloc _).drew.is (u.heap.size + 1) 2 24 #[.int .i64 (k : Int), .slice (some ⟨u.heap.size, 0, none⟩) 1 1] (by simp) 1 (by decide) (Value.slice (some ⟨u.heap.size, 0, none⟩) (trueN k).l.length 1) rfl⟩ | exact ⟨(q6.alloc _).is (u.heap.size + 1) 2 24 #[.int .i64 (k : Int), .slice (some ⟨u.heap.size, 0, none⟩) 1 1] (by simp) 0 (by decide) (Value.int .i64 (trueN k).n) rfl, (q6.alloc _).is (u.heap.size + 1) 2 24 #[.int .i64 (k : Int), .slice (some ⟨u.heap.size, 0, none⟩) 1 1] (by simp) 1 (by decide) (Value.slice (some ⟨u.heap.size, 0, none⟩) (trueN k).l.length 1) rfl⟩ | go_keep)
              (first
                | (go_simp
                   go_at_call 24
                   (with_reducible first | refine (HPW.out _).mono ?_)
                   rintro e w9 ⟨rfl, hb9⟩
                   first
                     | (replace q6 := q6.below hb9
                        try replace hz6 := rowBelow hz6 hb9)
                     | (have hz6 := rowBelow hz hb9
                        have hX6 := hX0
                        have N1 := Lib.hid (Ne.symm (hX6.2 (u.heap.size + 1, 24, 2, #[.int .i64 (k : Int), .slice (some ⟨u.heap.size, 0, none⟩) 1 1]) (by simp)))
                        replace q6 := (q4.alloc _).drew.below hb9)
                     | (have hX6 := q6.fresh
                        have N1 := Lib.hid (Ne.symm (hX6.2 (u.heap.size + 1, 24, 2, #[.int .i64 (k : Int), .slice (some ⟨u.heap.size, 0, none⟩) 1 1]) (by simp)))
                        have hz6 := rowBelow (arrNew _ #[.int .u64 0, .int .u64 0] 27 _ 2 rfl rfl) hb9
                        replace q6 := (q6.alloc _).below hb9)
                   have m1 := q6.is (u.heap.size + 1) 2 24 #[.int .i64 (k : Int), .slice (some ⟨u.heap.size, 0, none⟩) 1 1] (by simp) 0 (by decide) (Value.int .i64 (trueN k).n) rfl
                   have m2 := q6.is (u.heap.size + 1) 2 24 #[.int .i64 (k : Int), .slice (some ⟨u.heap.size, 0, none⟩) 1 1] (by simp) 1 (by decide) (Value.slice (some ⟨u.heap.size, 0, none⟩) (trueN k).l.length 1) rfl
                   try have z1 := hz6.frozen 0
                   try have z2 := hz6.frozen 1
                   try have z3 := hz6.cell (i := 0) (by omega)
                   try have z4 := hz6.cell (i := 1) (by omega))
                | (go_simp
                   go_at_call 23
                   (with_reducible first | refine (fr_none _ k u.heap.size hm128 (HNT.out _ q6.base) (HTB.out _ q6.base)).mono ?_ | refine (fr_none _ k u.heap.size hm128 (HNT.out _ (q4.alloc _).drew.base) (HTB.out _ (q4.alloc _).drew.base)).mono ?_ | refine (fr_none _ k u.heap.size hm128 (HNT.out _ (q6.alloc _).base) (HTB.out _ (q6.alloc _).base)).mono ?_)
                   rintro e w9 ⟨rfl, hb9⟩
                   first
                     | (replace q6 := q6.below hb9
                        try replace hz6 := rowBelow hz6 hb9)
                     | (have hz6 := rowBelow hz hb9
                        have hX6 := hX0
                        have N1 := Lib.hid (Ne.symm (hX6.2 (u.heap.size + 1, 24, 2, #[.int .i64 (k : Int), .slice (some ⟨u.heap.size, 0, none⟩) 1 1]) (by simp)))
                        replace q6 := (q4.alloc _).drew.below hb9)
                     | (have hX6 := q6.fresh
                        have N1 := Lib.hid (Ne.symm (hX6.2 (u.heap.size + 1, 24, 2, #[.int .i64 (k : Int), .slice (some ⟨u.heap.size, 0, none⟩) 1 1]) (by simp)))
                        have hz6 := rowBelow (arrNew _ #[.int .u64 0, .int .u64 0] 27 _ 2 rfl rfl) hb9
                        replace q6 := (q6.alloc _).below hb9)
                   have m1 := q6.is (u.heap.size + 1) 2 24 #[.int .i64 (k : Int), .slice (some ⟨u.heap.size, 0, none⟩) 1 1] (by simp) 0 (by decide) (Value.int .i64 (trueN k).n) rfl
                   have m2 := q6.is (u.heap.size + 1) 2 24 #[.int .i64 (k : Int), .slice (some ⟨u.heap.size, 0, none⟩) 1 1] (by simp) 1 (by decide) (Value.slice (some ⟨u.heap.size, 0, none⟩) (trueN k).l.length 1) rfl
                   try have z1 := hz6.frozen 0
                   try have z2 := hz6.frozen 1
                   try have z3 := hz6.cell (i := 0) (by omega)
                   try have z4 := hz6.cell (i := 1) (by omega)))
            all_goals
              try go_wp2
              go_meet
              case rel =>
                first
                  | exact ⟨_, rfl, rfl, rfl, q6.new _ _ _ _ rfl rfl⟩
                  | exact ⟨_, rfl, rfl, rfl, ((q6.other hX6.1 hX6.2 _ _).other hX6.1 hX6.2 _ _).cons (pairRow hz6 _ _)⟩
          case rest =>
            obtain ⟨BA, rfl, rfl, rfl, q7⟩ := hcut
            have he0 : ∀ w, (Op.equalIn 10000 43 (.agg #[.string (natB (hor b k))]) (.agg #[.string (natB (hor b k))])).run Tryd.prog w = .ok true w := fun w => (eq_nats _ _ w).trans (by rw [decide_eq_true rfl])
            have he1 : ∀ w, (Op.equalIn 10000 27 (.agg #[.int .u64 (lo b : Int), .int .u64 (hi b : Int)]) (.agg #[.int .u64 (lo b : Int), .int .u64 (hi b : Int)])).run Tryd.prog w = .ok true w := fun w => by rw [eq_set]; simp
            have y1 := q7.is (w6.heap.size) 1 43 #[.string (natB (hor b k))] (by simp) 0 (by decide) (.string (natB (hor b k))) rfl
            have y2 := q7.is (w5.heap.size) 1 43 #[.string (natB (hor b k))] (by simp) 0 (by decide) (.string (natB (hor b k))) rfl
            have y3 := q7.is (w7.heap.size) 2 27 #[.int .u64 (lo b : Int), .int .u64 (hi b : Int)] (by simp) 0 (by decide) (.int .u64 (lo b : Int)) rfl
            have y4 := q7.is (w7.heap.size) 2 27 #[.int .u64 (lo b : Int), .int .u64 (hi b : Int)] (by simp) 1 (by decide) (.int .u64 (hi b : Int)) rfl
            have y5 := q7.is (w8.heap.size) 2 27 #[.int .u64 (lo b : Int), .int .u64 (hi b : Int)] (by simp) 0 (by decide) (.int .u64 (lo b : Int)) rfl
            have y6 := q7.is (w8.heap.size) 2 27 #[.int .u64 (lo b : Int), .int .u64 (hi b : Int)] (by simp) 1 (by decide) (.int .u64 (hi b : Int)) rfl
            have y7 := q7.is (w.heap.size) 2 27 #[.int .u64 (lo b : Int), .int .u64 (hi b : Int)] (by simp) 0 (by decide) (.int .u64 (lo b : Int)) rfl
            have y8 := q7.is (w.heap.size) 2 27 #[.int .u64 (lo b : Int), .int .u64 (hi b : Int)] (by simp) 1 (by decide) (.int .u64 (hi b : Int)) rfl
            go_wp2_with (go_at_call 13; (with_reducible refine (works_any _ (HTB.out _ q7.base)).mono ?_); rintro e w10 ⟨rfl, hb10⟩; have q8 := q7.below hb10)
            go_ret
            exact ⟨rfl, q8.bl⟩
end Go.Proofs.YtemgfhdgpkmmaaaDoor
