/- The walk of ListSought. -/
import Derived.Test.YtemgfhdgpkmmaaaDoorG2
import Derived.Test.YtemgfhdgpkmmaaaDoorI1
import Derived.Deep.CutRange
set_option linter.unusedSimpArgs false
set_option linter.unusedVariables false
open Go Go.RowKit Cs
namespace Cs
theorem asg_first (N : Nt) (n i : Nat) : (∃ k, i ≤ k ∧ k < 2 ^ n ∧ evB N (asg k n) = true ∧ ∀ j, i ≤ j → j < k → evB N (asg j n) = false) ∨ ∀ j, i ≤ j → j < 2 ^ n → evB N (asg j n) = false := by
  have key : ∀ d, d + i ≤ 2 ^ n → (∃ k, i ≤ k ∧ k < 2 ^ n ∧ evB N (asg k n) = true ∧ ∀ j, i ≤ j → j < k → evB N (asg j n) = false) ∨ ∀ j, i ≤ j → j < d + i → evB N (asg j n) = false := by
    intro d
    induction d with
    | zero => exact fun _ => .inr fun j h1 h2 => absurd h2 (by omega)
    | succ d ih =>
      intro h
      rcases ih (by omega) with h1 | h1
      · exact .inl h1
      · cases he : evB N (asg (d + i) n)
        · refine .inr fun j h2 h3 => ?_
          rcases Nat.lt_or_ge j (d + i) with h4 | h4
          · exact h1 j h2 h4
          · obtain rfl : j = d + i := by omega
            exact he
        · exact .inl ⟨d + i, by omega, by omega, he, h1⟩
  rcases Nat.lt_or_ge (2 ^ n) i with h | h
  · exact .inr fun j h1 h2 => absurd h2 (by omega)
  · rcases key (2 ^ n - i) (by omega) with h1 | h1
    · exact .inl h1
    · exact .inr fun j h2 h3 => h1 j h2 (by omega)
end Cs
namespace Go.Proofs.YtemgfhdgpkmmaaaDoor
theorem eq_same (a : Nat) (W : World) : (Op.equalIn 10000 27 (setV a) (setV a)).run Tryd.prog W = .ok true W := by
  rw [eq_set]; simp
theorem asg_isSet {k n : Nat} (hn : n ≤ 10) : IsSet (asg k n) := by
  have := asg_lt k n
  have h2 : (2 : Nat) ^ n ≤ 2 ^ 10 := Nat.pow_le_pow_right (by decide) hn
  unfold IsSet
  omega
set_option maxRecDepth 100000 in
set_option maxHeartbeats 4000000 in
theorem sought_main (w : World) (N : Nt) (A : Option Addr) (c at_ n : Nat) (hn : N.n = (n : Int)) (hn9 : n ≤ 9) (hat : at_ < 65536) (hN : NtAt w w.heap.size A N.l) (hL : lightB N 100 = true) (hv : vld N = true) (hd : dcmp N = true) (hT : Tab w) :
    Calls Tryd.prog 4 #[ntV N A c, .int .u16 (at_ : Int)] w fun e w' => e = .returned (.bool true) ∧ Below w.heap.size w w' := by
  obtain ⟨hn0, hn1, hl0, hl1⟩ := vld_bounds hv
  obtain ⟨M, hM⟩ : ∃ M, 2 ^ n = M := ⟨_, rfl⟩
  have hM1 : 1 ≤ M := by rw [← hM]; exact Nat.one_le_two_pow
  have hM2 : M ≤ 512 := by rw [← hM]; exact Nat.le_trans (Nat.pow_le_pow_right (by decide) hn9) (by decide)
  obtain ⟨i, hi⟩ : ∃ i, at_ % M = i := ⟨_, rfl⟩
  have hiM : i < M := by rw [← hi]; exact Nat.mod_lt _ (by omega)
  have hhit : ∀ k, i ≤ k → k < M → evB N (asg k n) = true → (∀ j, i ≤ j → j < k → evB N (asg j n) = false) → (seekN N (asg i n)).set = asg k n ∧ (seekN N (asg i n)).ok = true := fun k h1 h2 h3 h4 => by
    rw [sought_hit hv hd n hn i (by omega) k h1 (by omega) h3 h4]; exact ⟨rfl, rfl⟩
  have hnone : (∀ j, i ≤ j → j < M → evB N (asg j n) = false) → (seekN N (asg i n)).set = 0 ∧ (seekN N (asg i n)).ok = false := fun h => by
    rw [sought_none hv hd n hn i (by omega) fun j h1 h2 => h j h1 (by omega)]; exact ⟨rfl, rfl⟩
  have hle : lerr N (asg i n) = 0 := by
    unfold lerr
    rw [hv, hd]
    have : minus (asg i n) (allTo N.n) = 0 := by
      rw [hn]
      refine (out_bit _ n (asg_isSet (by omega)) (by omega)).2 fun j h1 _ => in_bit (In.of_lt (asg_lt i n)) h1
    rw [decide_eq_true this]; rfl
  have hsk : skR N (asg i n) = .tuple #[setV (seekN N (asg i n)).set, .bool (seekN N (asg i n)).ok, .int .i64 0] := by unfold skR; rw [if_pos hle]; rfl
  obtain ⟨PS, hPS⟩ : ∃ PS, (seekN N (asg i n)).set = PS := ⟨_, rfl⟩
  obtain ⟨PO, hPO⟩ : ∃ PO, (seekN N (asg i n)).ok = PO := ⟨_, rfl⟩
  rw [hPS, hPO] at hsk
  simp only [hPS, hPO] at hhit hnone
  have hq0 : Bag w (w.alloc (.cells #[.int .i64 N.n, .slice A N.l.length c] 24)) (w.alloc (.cells #[.int .i64 N.n, .slice A N.l.length c] 24)).heap.size [(w.heap.size, 24, 2, #[.int .i64 N.n, .slice A N.l.length c])] (w.alloc (.cells #[.int .i64 N.n, .slice A N.l.length c] 24)) := ((Bag.start (Below.refl _ w)).new _ _ _ 2 rfl rfl).rebase
  obtain ⟨V, hV⟩ : ∃ V, w.alloc (.cells #[.int .i64 N.n, .slice A N.l.length c] 24) = V := ⟨_, rfl⟩
  rw [hV, hn] at hq0
  rw [hn] at hV
  have hwV : Below w.heap.size w V := by rw [← hV]; exact (Below.refl _ _).alloc (Nat.le_refl _) _
  have hnt : ∀ W, Below V.heap.size V W → NtAt W W.heap.size A N.l := fun W hb => ((hN.below hwV).below (hb.mono hwV.size)).more (Nat.le_trans hwV.size hb.size)
  have htb : ∀ W, Below V.heap.size V W → Tab W := fun W hb => (hT.below hwV).below hb
  have hli := fun W hb => light_any W N A c 100 (by omega) (hnt W hb) (by omega)
  have hdc := fun W hb => decomposable_g W N A c (by omega) (hnt W hb)
  have hse := fun W hb => seek_any W N A c (asg i n) (by omega) (hnt W hb) (asg_isSet (by omega)) (htb W hb)
  have hev := fun W hb k => eval_any W N A c (asg k n) (by omega) (hnt W hb)
  have hwk := fun W hb => works_any W (htb W hb)
  rw [hL] at hli
  rw [hv, hd] at hdc
  rw [hsk] at hse
  simp only [hv, Bool.true_and] at hev
  have has := fun (W : World) (k : Nat) (hk : k < 1024) => assign_any W k n hk (by omega)
  have hai := fun (W : World) => assign_any W i n (by omega) (by omega)
  simp only [ntV, hn] at hli hdc hse hev
  have hip : (at_ : Int) % (M : Int) = (i : Int) := by rw [← hi]; simp
  have hMi : IntKind.i64.wrap ((2 : Int) ^ n) = (M : Int) := by
    rw [← hM, Int.natCast_pow]; exact IntWalk.i64_in _ (by rw [show ((2 : Int) ^ n) = ((2 ^ n : Nat) : Int) by simp, hM]; omega)
  have HLI := Lib.hid hli
  have HDC := Lib.hid hdc
  have HSE := Lib.hid hse
  have HEV := Lib.hid hev
  have HWK := Lib.hid hwk
  have HAS := Lib.hid has
  have HAI := Lib.hid hai
  have HIT := Lib.hid hhit
  have HNO := Lib.hid hnone
  have HM := Lib.hid hM
  have HV := Lib.hid hV
  have HMI := Lib.hid hMi
  have HIP := Lib.hid hip
  clear hli hdc hse hev hwk has hai hhit hnone hM hV hn0 hn1 hle hsk hPS hPO hi hnt htb hwV hT hv hd hL hMi hip
  simp only [ntV, hn]
  go_enter Tryd.func4, Tryd.ntmps4
  go_wp2_with fail
  rw [HV.out]
  refine (HLI.out _ hq0.base).mono ?_
  rintro e w5 ⟨rfl, hb5⟩
  have q1 := hq0.below hb5
  clear hq0 hb5
  have n1 := q1.is0 0 (by decide) (.int .i64 (n : Int)) rfl
  have n2 := q1.is0 1 (by decide) (.slice A N.l.length c) rfl
  go_wp2_with fail
  refine (HDC.out _ q1.base).mono ?_
  rintro e w6 ⟨rfl, hb6⟩
  have q2 := q1.below hb6
  clear q1 hb6 n1 n2
  have n1 := q2.is0 0 (by decide) (.int .i64 (n : Int)) rfl
  have n2 := q2.is0 1 (by decide) (.slice A N.l.length c) rfl
  have hmi := HMI.out
  have hip := HIP.out
  go_wp2_with fail
  clear hmi hip
  rw [HIP.out]
  go_cut [6, 7, 8] from 32 to 40 (fun p x y wx => ∃ ga, p = .pointer (some ⟨ga, 0, none⟩) ∧ x = .bool PO ∧ y = .int .i64 0 ∧ Bag w V V.heap.size ((ga, 27, 2, #[.int .u64 (lo PS : Int), .int .u64 (hi PS : Int)]) :: [(w.heap.size, 24, 2, #[.int .i64 (n : Int), .slice A N.l.length c])]) wx)
  case first =>
    have q6 := q2.drew
    have hz := (q2.new #[.int .u64 0, .int .u64 0] 27 _ 2 rfl rfl).row0.drew
    have hX0 := q2.fresh
    have m1 := q6.is (w.heap.size) 2 24 #[.int .i64 (n : Int), .slice A N.l.length c] (by simp) 0 (by decide) (.int .i64 (n : Int)) rfl
    have m2 := q6.is (w.heap.size) 2 24 #[.int .i64 (n : Int), .slice A N.l.length c] (by simp) 1 (by decide) (.slice A N.l.length c) rfl
    go_region_held3 (fun w' => w'.cell? ⟨w.heap.size, 0, none⟩ = some (.int .i64 (n : Int)) ∧ w'.cell? ⟨w.heap.size, 1, none⟩ = some (.slice A N.l.length c))
      (first | exact ⟨m1, m2⟩ | exact ⟨putFar N1.out m1, putFar N2.out m2⟩ | exact ⟨(q2.alloc _).drew.is (w.heap.size) 2 24 #[.int .i64 (n : Int), .slice A N.l.length c] (by simp) 0 (by decide) (.int .i64 (n : Int)) rfl, (q2.alloc _).drew.is (w.heap.size) 2 24 #[.int .i64 (n : Int), .slice A N.l.length c] (by simp) 1 (by decide) (.slice A N.l.length c) rfl⟩ | exact ⟨(q6.alloc _).is (w.heap.size) 2 24 #[.int .i64 (n : Int), .slice A N.l.length c] (by simp) 0 (by decide) (.int .i64 (n : Int)) rfl, (q6.alloc _).is (w.heap.size) 2 24 #[.int .i64 (n : Int), .slice A N.l.length c] (by simp) 1 (by decide) (.slice A N.l.length c) rfl⟩ | go_keep)
      (first
        | (go_simp
           go_at_call 18
           (with_reducible first | refine (HAI.out _).mono ?_)
           rintro e w9 ⟨rfl, hb9⟩
           first
             | (replace q6 := q6.below hb9
                try replace hz6 := rowBelow hz6 hb9)
             | (have hz6 := rowBelow hz hb9
                have hX6 := hX0
                have N1 := Lib.hid (Ne.symm (hX6.2 (w.heap.size, 24, 2, #[.int .i64 (n : Int), .slice A N.l.length c]) (by simp)))
                have N2 := Lib.hid (Ne.symm (hX6.2 (w.heap.size, 24, 2, #[.int .i64 (n : Int), .slice A N.l.length c]) (by simp)))
                replace q6 := (q2.alloc _).drew.below hb9)
             | (have hX6 := q6.fresh
                have N1 := Lib.hid (Ne.symm (hX6.2 (w.heap.size, 24, 2, #[.int .i64 (n : Int), .slice A N.l.length c]) (by simp)))
                have N2 := Lib.hid (Ne.symm (hX6.2 (w.heap.size, 24, 2, #[.int .i64 (n : Int), .slice A N.l.length c]) (by simp)))
                have hz6 := rowBelow (arrNew _ #[.int .u64 0, .int .u64 0] 27 _ 2 rfl rfl) hb9
                replace q6 := (q6.alloc _).below hb9)
           have m1 := q6.is (w.heap.size) 2 24 #[.int .i64 (n : Int), .slice A N.l.length c] (by simp) 0 (by decide) (.int .i64 (n : Int)) rfl
           have m2 := q6.is (w.heap.size) 2 24 #[.int .i64 (n : Int), .slice A N.l.length c] (by simp) 1 (by decide) (.slice A N.l.length c) rfl
           try have y0 := hz6.frozen 0
           try have z0 := hz6.cell (i := 0) (by omega)
           try have y1 := hz6.frozen 1
           try have z1 := hz6.cell (i := 1) (by omega))
        | (go_simp
           go_at_call 14
           (with_reducible first | refine (HSE.out _ q6.base).mono ?_ | refine (HSE.out _ (q2.alloc _).drew.base).mono ?_ | refine (HSE.out _ (q6.alloc _).base).mono ?_)
           rintro e w9 ⟨rfl, hb9⟩
           first
             | (replace q6 := q6.below hb9
                try replace hz6 := rowBelow hz6 hb9)
             | (have hz6 := rowBelow hz hb9
                have hX6 := hX0
                have N1 := Lib.hid (Ne.symm (hX6.2 (w.heap.size, 24, 2, #[.int .i64 (n : Int), .slice A N.l.length c]) (by simp)))
                have N2 := Lib.hid (Ne.symm (hX6.2 (w.heap.size, 24, 2, #[.int .i64 (n : Int), .slice A N.l.length c]) (by simp)))
                replace q6 := (q2.alloc _).drew.below hb9)
             | (have hX6 := q6.fresh
                have N1 := Lib.hid (Ne.symm (hX6.2 (w.heap.size, 24, 2, #[.int .i64 (n : Int), .slice A N.l.length c]) (by simp)))
                have N2 := Lib.hid (Ne.symm (hX6.2 (w.heap.size, 24, 2, #[.int .i64 (n : Int), .slice A N.l.length c]) (by simp)))
                have hz6 := rowBelow (arrNew _ #[.int .u64 0, .int .u64 0] 27 _ 2 rfl rfl) hb9
                replace q6 := (q6.alloc _).below hb9)
           have m1 := q6.is (w.heap.size) 2 24 #[.int .i64 (n : Int), .slice A N.l.length c] (by simp) 0 (by decide) (.int .i64 (n : Int)) rfl
           have m2 := q6.is (w.heap.size) 2 24 #[.int .i64 (n : Int), .slice A N.l.length c] (by simp) 1 (by decide) (.slice A N.l.length c) rfl
           try have y0 := hz6.frozen 0
           try have z0 := hz6.cell (i := 0) (by omega)
           try have y1 := hz6.frozen 1
           try have z1 := hz6.cell (i := 1) (by omega)))
    all_goals
      try go_wp2
      go_meet
      case rel =>
        first
          | exact ⟨_, rfl, rfl, rfl, q6.new _ _ _ _ rfl rfl⟩
          | exact ⟨_, rfl, rfl, rfl, ((q6.other hX6.1 hX6.2 _ _).other hX6.1 hX6.2 _ _).cons (pairRow hz6 _ _)⟩
  case rest =>
    obtain ⟨ga, rfl, rfl, rfl, q3⟩ := hcut
    clear q2 n1 n2 HSE HAI HLI HDC
    go_wp2_with fail
    go_loopw [9] (fun t wr => ∃ k : Nat, i ≤ k ∧ k ≤ M ∧ t = .int .i64 (k : Int) ∧ Hid (∀ j, i ≤ j → j < k → evB N (asg j n) = false) ∧ Bag w V V.heap.size [(ga, 27, 2, #[.int .u64 (lo PS : Int), .int .u64 (hi PS : Int)]), (w.heap.size, 24, 2, #[.int .i64 (n : Int), .slice A N.l.length c])] wr) (fun t _ => M - (intOf t).toNat)
    case atStart => exact ⟨i, Nat.le_refl _, by omega, rfl, fun j h1 h2 => absurd h2 (by omega), q3⟩
    case round =>
      clear q3
      obtain ⟨k, hk1, hk2, rfl, HK, q⟩ := hrel
      have n1 := q.is w.heap.size 2 24 #[.int .i64 (n : Int), .slice A N.l.length c] (by simp) 0 (by decide) (.int .i64 (n : Int)) rfl
      have n2 := q.is w.heap.size 2 24 #[.int .i64 (n : Int), .slice A N.l.length c] (by simp) 1 (by decide) (.slice A N.l.length c) rfl
      have s1 := q.is0 0 (by decide) (.int .u64 (lo PS : Int)) rfl
      have s2 := q.is0 1 (by decide) (.int .u64 (hi PS : Int)) rfl
      have hmi := HMI.out
      by_cases hlt : k < M
      · have hc : decide ((k : Int) < (M : Int)) = true := decide_eq_true (by omega)
        have hak := HAS.out
        have HAK := Lib.hid (fun W => hak W k (by omega))
        have HEK := Lib.hid (fun W hb => HEV.out W hb k)
        obtain ⟨B, hB⟩ : ∃ B, evB N (asg k n) = B := ⟨_, rfl⟩
        rw [hB] at HEK
        have HB := Lib.hid hB
        clear hak hB
        clear s1 s2
        cases B
        · go_wp2_with fail
          clear hmi n1 n2
          replace q := q.drew
          have n1 := q.is w.heap.size 2 24 #[.int .i64 (n : Int), .slice A N.l.length c] (by simp) 0 (by decide) (.int .i64 (n : Int)) rfl
          have n2 := q.is w.heap.size 2 24 #[.int .i64 (n : Int), .slice A N.l.length c] (by simp) 1 (by decide) (.slice A N.l.length c) rfl
          go_region_held3 (fun w' => w'.cell? ⟨w.heap.size, 0, none⟩ = some (.int .i64 (n : Int)) ∧ w'.cell? ⟨w.heap.size, 1, none⟩ = some (.slice A N.l.length c))
            (first | exact ⟨n1, n2⟩ | go_keep)
            (first
              | (go_simp
                 go_at_call 18
                 (with_reducible first | refine (HAK.out _).mono ?_)
                 rintro e w9 ⟨rfl, hb9⟩
                 replace q := q.below hb9
                 have n1 := q.is w.heap.size 2 24 #[.int .i64 (n : Int), .slice A N.l.length c] (by simp) 0 (by decide) (.int .i64 (n : Int)) rfl
                 have n2 := q.is w.heap.size 2 24 #[.int .i64 (n : Int), .slice A N.l.length c] (by simp) 1 (by decide) (.slice A N.l.length c) rfl)
              | (go_simp
                 go_at_call 19
                 (with_reducible first | refine (HEK.out _ q.base).mono ?_)
                 rintro e w9 ⟨rfl, hb9⟩
                 replace q := q.below hb9
                 have n1 := q.is w.heap.size 2 24 #[.int .i64 (n : Int), .slice A N.l.length c] (by simp) 0 (by decide) (.int .i64 (n : Int)) rfl
                 have n2 := q.is w.heap.size 2 24 #[.int .i64 (n : Int), .slice A N.l.length c] (by simp) 1 (by decide) (.slice A N.l.length c) rfl))
          all_goals
            try go_wp2
            go_roundw
            case rel =>
              refine ⟨k + 1, by omega, by omega, by go_num, fun j h1 h2 => ?_, q⟩
              rcases Nat.lt_or_ge j k with h | h
              · exact HK.out j h1 h
              · obtain rfl : j = k := by omega
                exact HB.out
            case measure => simp [intOf]; omega
        · obtain ⟨rfl, rfl⟩ := HIT.out k hk1 hlt HB.out HK.out
          go_wp2_with fail
          clear hmi n1 n2
          replace q := q.drew
          have n1 := q.is w.heap.size 2 24 #[.int .i64 (n : Int), .slice A N.l.length c] (by simp) 0 (by decide) (.int .i64 (n : Int)) rfl
          have n2 := q.is w.heap.size 2 24 #[.int .i64 (n : Int), .slice A N.l.length c] (by simp) 1 (by decide) (.slice A N.l.length c) rfl
          go_region_held3 (fun w' => w'.cell? ⟨w.heap.size, 0, none⟩ = some (.int .i64 (n : Int)) ∧ w'.cell? ⟨w.heap.size, 1, none⟩ = some (.slice A N.l.length c))
            (first | exact ⟨n1, n2⟩ | go_keep)
            (first
              | (go_simp
                 go_at_call 18
                 (with_reducible first | refine (HAK.out _).mono ?_)
                 rintro e w9 ⟨rfl, hb9⟩
                 replace q := q.below hb9
                 have n1 := q.is w.heap.size 2 24 #[.int .i64 (n : Int), .slice A N.l.length c] (by simp) 0 (by decide) (.int .i64 (n : Int)) rfl
                 have n2 := q.is w.heap.size 2 24 #[.int .i64 (n : Int), .slice A N.l.length c] (by simp) 1 (by decide) (.slice A N.l.length c) rfl)
              | (go_simp
                 go_at_call 19
                 (with_reducible first | refine (HEK.out _ q.base).mono ?_)
                 rintro e w9 ⟨rfl, hb9⟩
                 replace q := q.below hb9
                 have n1 := q.is w.heap.size 2 24 #[.int .i64 (n : Int), .slice A N.l.length c] (by simp) 0 (by decide) (.int .i64 (n : Int)) rfl
                 have n2 := q.is w.heap.size 2 24 #[.int .i64 (n : Int), .slice A N.l.length c] (by simp) 1 (by decide) (.slice A N.l.length c) rfl))
          all_goals
            try go_wp2_with fail
            replace q := q.drew
            have heq := eq_same (asg k n)
            have n1 := q.is w.heap.size 2 24 #[.int .i64 (n : Int), .slice A N.l.length c] (by simp) 0 (by decide) (.int .i64 (n : Int)) rfl
            have s1 := q.is0 0 (by decide) (.int .u64 (lo (asg k n) : Int)) rfl
            have s2 := q.is0 1 (by decide) (.int .u64 (hi (asg k n) : Int)) rfl
            go_region_held3 (fun w' => w'.cell? ⟨w.heap.size, 0, none⟩ = some (.int .i64 (n : Int)) ∧ w'.cell? ⟨ga, 0, none⟩ = some (.int .u64 (lo (asg k n) : Int)) ∧ w'.cell? ⟨ga, 1, none⟩ = some (.int .u64 (hi (asg k n) : Int)))
              (first | exact ⟨n1, s1, s2⟩ | go_keep)
              (first
                | (go_simp
                   go_at_call 18
                   (with_reducible first | refine (HAK.out _).mono ?_)
                   rintro e w9 ⟨rfl, hb9⟩
                   replace q := q.below hb9
                   have n1 := q.is w.heap.size 2 24 #[.int .i64 (n : Int), .slice A N.l.length c] (by simp) 0 (by decide) (.int .i64 (n : Int)) rfl
                   have s1 := q.is0 0 (by decide) (.int .u64 (lo (asg k n) : Int)) rfl
                   have s2 := q.is0 1 (by decide) (.int .u64 (hi (asg k n) : Int)) rfl)
                | (go_simp
                   go_at_call 13
                   (with_reducible first | refine (HWK.out _ q.base).mono ?_)
                   rintro e w9 ⟨rfl, hb9⟩
                   replace q := q.below hb9
                   have n1 := q.is w.heap.size 2 24 #[.int .i64 (n : Int), .slice A N.l.length c] (by simp) 0 (by decide) (.int .i64 (n : Int)) rfl
                   have s1 := q.is0 0 (by decide) (.int .u64 (lo (asg k n) : Int)) rfl
                   have s2 := q.is0 1 (by decide) (.int .u64 (hi (asg k n) : Int)) rfl))
            all_goals
              try go_wp2
              go_ret
              exact ⟨rfl, q.bl⟩
      · obtain rfl : k = M := by omega
        obtain ⟨rfl, rfl⟩ := HNO.out HK.out
        have hc : decide ((k : Int) < (k : Int)) = false := decide_eq_false (by omega)
        clear s1 s2
        have s1 := q.is0 0 (by decide) (.int .u64 0) rfl
        have s2 := q.is0 1 (by decide) (.int .u64 0) rfl
        have heq : ∀ W, (Op.equalIn 10000 27 (.agg #[.int .u64 0, .int .u64 0]) (.agg #[.int .u64 0, .int .u64 0])).run Tryd.prog W = .ok true W := eq_same 0
        go_wp2_with fail
        refine (HWK.out _ q.base).mono ?_
        rintro e w9 ⟨rfl, hb9⟩
        go_wp2
        go_ret
        exact ⟨rfl, (q.below hb9).bl⟩
theorem sought_no (w : World) (N : Nt) (A : Option Addr) (c at_ : Nat) (hlen : N.l.length ≤ 140737488355328) (hN : NtAt w w.heap.size A N.l) (hT : Tab w) (h : lightB N 100 = false ∨ (lightB N 100 = true ∧ (9 < N.n ∨ (¬ 9 < N.n ∧ (vld N && dcmp N) = false)))) :
    Calls Tryd.prog 4 #[ntV N A c, .int .u16 (at_ : Int)] w fun e w' => e = .returned (.bool true) ∧ Below w.heap.size w w' := by
  have hq0 : Bag w (w.alloc (.cells #[.int .i64 N.n, .slice A N.l.length c] 24)) (w.alloc (.cells #[.int .i64 N.n, .slice A N.l.length c] 24)).heap.size [(w.heap.size, 24, 2, #[.int .i64 N.n, .slice A N.l.length c])] (w.alloc (.cells #[.int .i64 N.n, .slice A N.l.length c] 24)) := ((Bag.start (Below.refl _ w)).new _ _ _ 2 rfl rfl).rebase
  obtain ⟨V, hV⟩ : ∃ V, w.alloc (.cells #[.int .i64 N.n, .slice A N.l.length c] 24) = V := ⟨_, rfl⟩
  rw [hV] at hq0
  have hwV : Below w.heap.size w V := by rw [← hV]; exact (Below.refl _ _).alloc (Nat.le_refl _) _
  have hnt : ∀ W, Below V.heap.size V W → NtAt W W.heap.size A N.l := fun W hb => ((hN.below hwV).below (hb.mono hwV.size)).more (Nat.le_trans hwV.size hb.size)
  have htb : ∀ W, Below V.heap.size V W → Tab W := fun W hb => (hT.below hwV).below hb
  have hli := fun W hb => light_any W N A c 100 hlen (hnt W hb) (by omega)
  have hdc := fun W hb => decomposable_g W N A c hlen (hnt W hb)
  have hwk := fun W hb => works_any W (htb W hb)
  have HDC := Lib.hid hdc
  have HWK := Lib.hid hwk
  have HV := Lib.hid hV
  clear hdc hwk hV hnt htb hwV hT
  rcases h with h | ⟨h, h9 | ⟨h9, hb⟩⟩
  · rw [h] at hli
    have HLI := Lib.hid hli
    clear hli h
    go_enter Tryd.func4, Tryd.ntmps4
    go_wp2_with fail
    rw [HV.out]
    refine (HLI.out _ hq0.base).mono ?_
    rintro e w5 ⟨rfl, hb5⟩
    have q1 := hq0.below hb5
    go_wp2_with fail
    refine (HWK.out _ q1.base).mono ?_
    rintro e w6 ⟨rfl, hb6⟩
    go_wp2
    go_ret
    exact ⟨rfl, (q1.below hb6).bl⟩
  · rw [h] at hli
    have HLI := Lib.hid hli
    clear hli h
    go_enter Tryd.func4, Tryd.ntmps4
    go_wp2_with fail
    rw [HV.out]
    refine (HLI.out _ hq0.base).mono ?_
    rintro e w5 ⟨rfl, hb5⟩
    have q1 := hq0.below hb5
    have n1 := q1.is0 0 (by decide) (.int .i64 N.n) rfl
    go_wp2_with fail
    refine (HWK.out _ q1.base).mono ?_
    rintro e w6 ⟨rfl, hb6⟩
    go_wp2
    go_ret
    exact ⟨rfl, (q1.below hb6).bl⟩
  · rw [h] at hli
    rw [hb] at HDC
    have HLI := Lib.hid hli
    clear hli h hb
    go_enter Tryd.func4, Tryd.ntmps4
    go_wp2_with fail
    rw [HV.out]
    refine (HLI.out _ hq0.base).mono ?_
    rintro e w5 ⟨rfl, hb5⟩
    have q1 := hq0.below hb5
    have n1 := q1.is0 0 (by decide) (.int .i64 N.n) rfl
    have n2 := q1.is0 1 (by decide) (.slice A N.l.length c) rfl
    go_wp2_with fail
    refine (HDC.out _ q1.base).mono ?_
    rintro e w6 ⟨rfl, hb6⟩
    have q2 := q1.below hb6
    go_wp2_with fail
    refine (HWK.out _ q2.base).mono ?_
    rintro e w7 ⟨rfl, hb7⟩
    go_wp2
    go_ret
    exact ⟨rfl, (q2.below hb7).bl⟩
theorem sought_any (w : World) (N : Nt) (A : Option Addr) (c at_ : Nat) (hlen : N.l.length ≤ 140737488355328) (hN : NtAt w w.heap.size A N.l) (hat : at_ < 65536) (hT : Tab w) :
    Calls Tryd.prog 4 #[ntV N A c, .int .u16 (at_ : Int)] w fun e w' => e = .returned (.bool true) ∧ Below w.heap.size w w' := by
  by_cases h : lightB N 100 = false ∨ (lightB N 100 = true ∧ (9 < N.n ∨ (¬ 9 < N.n ∧ (vld N && dcmp N) = false)))
  · exact sought_no w N A c at_ hlen hN hT h
  · have hL : lightB N 100 = true := by
      cases hl : lightB N 100
      · exact absurd (.inl hl) h
      · rfl
    have h9 : ¬ 9 < N.n := fun h' => h (.inr ⟨hL, .inl h'⟩)
    have hvd : (vld N && dcmp N) = true := by
      cases hl : (vld N && dcmp N)
      · exact absurd (.inr ⟨hL, .inr ⟨h9, hl⟩⟩) h
      · rfl
    simp only [Bool.and_eq_true] at hvd
    obtain ⟨hn0, _, _, _⟩ := vld_bounds hvd.1
    exact sought_main w N A c at_ N.n.toNat (by omega) (by omega) hat hN hL hvd.1 hvd.2 hT
end Go.Proofs.YtemgfhdgpkmmaaaDoor
