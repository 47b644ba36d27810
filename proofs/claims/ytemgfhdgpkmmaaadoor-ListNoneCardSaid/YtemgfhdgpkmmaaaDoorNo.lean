/- The walk of ListNone. -/
import Derived.Test.YtemgfhdgpkmmaaaDoorAl
set_option linter.unusedSimpArgs false
set_option linter.unusedVariables false
open Go Go.RowKit Cs
namespace Go.Proofs.YtemgfhdgpkmmaaaDoor
theorem lerr_want {N : Nt} (h : (vld N && dcmp N) = false) : lerr N 0 = (if vld N then 210 else 1) ∧ lerr N 0 ≠ 0 := by
  have hm : minus 0 (allTo N.n) = 0 := by unfold minus; simp
  unfold lerr
  rw [decide_eq_true hm, Bool.and_true]
  cases hv : vld N
  · exact ⟨rfl, by rw [if_neg (by decide)]; decide⟩
  · rw [hv, Bool.true_and] at h
    rw [h]; exact ⟨rfl, by rw [if_pos rfl, if_neg (by decide)]; decide⟩
theorem none_sk {N : Nt} (h : lerr N 0 ≠ 0) : skR N 0 = .tuple #[.agg #[.int .u64 0, .int .u64 0], .bool false, .int .i64 (lerr N 0)] := by
  unfold skR skV
  rw [if_neg h]; rfl
theorem none_rerr {N : Nt} (h : lerr N 0 ≠ 0) : rerr N 0 = lerr N 0 := by unfold rerr; rw [if_neg h]
theorem none_rk {N : Nt} (h : lerr N 0 ≠ 0) : rkR N 0 = .tuple #[natV 0, .int .i64 (lerr N 0)] := by
  unfold rkR
  rw [none_rerr h, if_neg h]
theorem none_at {N : Nt} (h : lerr N 0 ≠ 0) : atR N 0 = .tuple #[.agg #[.int .u64 0, .int .u64 0], .bool false, .int .i64 (lerr N 0)] := by
  unfold atR skV
  rw [none_rerr h, if_neg h]; rfl
def noWk : Array Value := #[.pointer none, .int .u64 0, .int .u64 0, .bool false, .bool false, .int .i64 0]
set_option maxRecDepth 100000 in
set_option maxHeartbeats 4000000 in
theorem none_main (w : World) (N : Nt) (A : Option Addr) (c a : Nat) (hlen : N.l.length ≤ 140737488355328) (hN : NtAt w w.heap.size A N.l) (hL : lightB N 100 = true) (hT : Tab w) :
    Calls Tryd.prog 10 #[ntV N A c, setV a] w fun e w' => e = .returned (.bool true) ∧ Below w.heap.size w w' := by
  have hq0 : Bag w ((w.alloc (.cells #[.int .i64 N.n, .slice A N.l.length c] 24)).alloc (.cells #[.int .u64 (lo a : Int), .int .u64 (hi a : Int)] 27)) ((w.alloc (.cells #[.int .i64 N.n, .slice A N.l.length c] 24)).alloc (.cells #[.int .u64 (lo a : Int), .int .u64 (hi a : Int)] 27)).heap.size [(w.heap.size + 1, 27, 2, #[.int .u64 (lo a : Int), .int .u64 (hi a : Int)]), (w.heap.size, 24, 2, #[.int .i64 N.n, .slice A N.l.length c])] ((w.alloc (.cells #[.int .i64 N.n, .slice A N.l.length c] 24)).alloc (.cells #[.int .u64 (lo a : Int), .int .u64 (hi a : Int)] 27)) := (((Bag.start (Below.refl _ w)).new _ _ _ 2 rfl rfl).new _ _ (w.heap.size + 1) 2 (by simp) rfl).rebase
  obtain ⟨V, hV⟩ : ∃ V, (w.alloc (.cells #[.int .i64 N.n, .slice A N.l.length c] 24)).alloc (.cells #[.int .u64 (lo a : Int), .int .u64 (hi a : Int)] 27) = V := ⟨_, rfl⟩
  rw [hV] at hq0
  have hwV : Below w.heap.size w V := by rw [← hV]; exact ((Below.refl _ _).alloc (Nat.le_refl _) _).alloc (by simp) _
  obtain ⟨hsl, hl100⟩ := light_slim hL
  have hnt : ∀ W, Below V.heap.size V W → NtAt W W.heap.size A N.l := fun W hb => ((hN.below hwV).below (hb.mono hwV.size)).more (Nat.le_trans hwV.size hb.size)
  have htb : ∀ W, Below V.heap.size V W → Tab W := fun W hb => (hT.below hwV).below hb
  have hli := fun W hb => light_any W N A c 100 hlen (hnt W hb) (by omega)
  have hck := fun W hb => nodeCheck_any W N A c hlen (hnt W hb)
  have hwk := fun W hb => works_any W (htb W hb)
  rw [hL] at hli
  have HLI := Lib.hid hli
  have HWK := Lib.hid hwk
  have HV := Lib.hid hV
  have hwz : w.heap.size + 1 < V.heap.size := hq0.lt0
  clear hli hwk hV hN hL
  -- the walks that were not made
  go_enter Tryd.func10, Tryd.ntmps10
  go_wp2_with fail
  rw [HV.out]
  have n1 := hq0.is (w.heap.size) 2 24 #[.int .i64 N.n, .slice A N.l.length c] (by simp) 0 (by decide) (.int .i64 N.n) rfl
  have n2 := hq0.is (w.heap.size) 2 24 #[.int .i64 N.n, .slice A N.l.length c] (by simp) 1 (by decide) (.slice A N.l.length c) rfl
  go_wp2_with fail
  refine (HLI.out _ hq0.base).mono ?_
  rintro e w5 ⟨rfl, hb5⟩
  have q1 := hq0.below hb5
  clear n1 n2 hq0
  have q2 := (q1.new noWk 67 w5.heap.size 6 rfl rfl).new #[.pointer none, .pointer (some ⟨w5.heap.size, 0, none⟩)] 57 (w5.heap.size + 1) 2 (by simp) rfl
  go_wp2_with fail
  go_loopw [29] (fun t wr => ∃ k : Nat, k ≤ 2 ∧ t = .int .i64 (k : Int) ∧ Bag w V V.heap.size [(w5.heap.size + 1, 57, 2, #[.pointer none, .pointer (some ⟨w5.heap.size, 0, none⟩)]), (w5.heap.size, 67, 6, noWk), (w.heap.size + 1, 27, 2, #[.int .u64 (lo a : Int), .int .u64 (hi a : Int)]), (w.heap.size, 24, 2, #[.int .i64 N.n, .slice A N.l.length c])] wr) (fun t _ => 2 - (intOf t).toNat)
  case atStart => exact ⟨0, by omega, rfl, q2⟩
  case round =>
    clear q1 q2 hb5
    obtain ⟨k, hk, rfl, q⟩ := hrel
    have hk3 : k = 0 ∨ k = 1 ∨ k = 2 := by omega
    have r0 := q.is0 0 (by decide) (.pointer none) rfl
    have r1 := q.is0 1 (by decide) (.pointer (some ⟨w5.heap.size, 0, none⟩)) rfl
    rcases hk3 with rfl | rfl | rfl
    · have hnx := next_nil wr
      have HNX : Hid (Calls Tryd.prog 31 #[.pointer none] wr fun e w' => e = .returned (.tuple #[.agg #[.int .u64 0, .int .u64 0], .bool false]) ∧ Below wr.heap.size wr w') := Lib.hid hnx
      clear hnx
      go_wp2_with fail
      refine (HNX.out).mono ?_
      rintro e w9 ⟨rfl, hb9⟩
      have q9 := (q.below hb9).alloc (.cells #[.int .u64 0, .int .u64 0] 27)
      have heq : ∀ W, (Op.equalIn 10000 27 (.agg #[.int .u64 0, .int .u64 0]) (.agg #[.int .u64 0, .int .u64 0])).run Tryd.prog W = .ok true W := eq_same 0
      go_wp2_with fail
      refine (steps_nil _).mono ?_
      rintro e w10 ⟨rfl, rfl⟩
      go_wp2
      go_roundw
      case rel => exact ⟨1, by omega, by go_num, q9⟩
      case measure => simp [intOf] <;> omega

    · have hnx := next_new wr w5.heap.size ((q.tail.row0).congr (six rfl rfl rfl rfl rfl rfl))
      have HNX : Hid (Calls Tryd.prog 31 #[.pointer (some ⟨w5.heap.size, 0, none⟩)] wr fun e w' => e = .returned (.tuple #[.agg #[.int .u64 0, .int .u64 0], .bool false]) ∧ Below wr.heap.size wr w') := Lib.hid hnx
      clear hnx
      go_wp2_with fail
      refine (HNX.out).mono ?_
      rintro e w9 ⟨rfl, hb9⟩
      have q9 := (q.below hb9).alloc (.cells #[.int .u64 0, .int .u64 0] 27)
      have heq : ∀ W, (Op.equalIn 10000 27 (.agg #[.int .u64 0, .int .u64 0]) (.agg #[.int .u64 0, .int .u64 0])).run Tryd.prog W = .ok true W := eq_same 0
      go_wp2_with fail
      refine (steps_any _ w5.heap.size 0 (q9.tail.is0 5 (by decide) (.int .i64 0) rfl)).mono ?_
      rintro e w10 ⟨rfl, rfl⟩
      go_wp2
      go_roundw
      case rel => exact ⟨2, by omega, by go_num, q9⟩
      case measure => simp [intOf] <;> omega

    · have q3 := q.tail.tail
      clear r0 r1 q
      have n1 := q3.is (w.heap.size) 2 24 #[.int .i64 N.n, .slice A N.l.length c] (by simp) 0 (by decide) (.int .i64 N.n) rfl
      have n2 := q3.is (w.heap.size) 2 24 #[.int .i64 N.n, .slice A N.l.length c] (by simp) 1 (by decide) (.slice A N.l.length c) rfl

      cases hv : vld N
      · have hE : lerr N 0 = 1 := by
          have := (lerr_want (N := N) (by rw [hv]; rfl)).1
          rw [hv] at this; exact this
        have hne : lerr N 0 ≠ 0 := by rw [hE]; decide
        have hc1 : chk N = 1 := by unfold chk; rw [hv]; rfl
        simp only [hc1] at hck
        have HCK := Lib.hid hck
        clear hck hc1 hv
        go_wp2_with fail
        refine (HCK.out _ q3.base).mono ?_
        rintro e w11 ⟨rfl, hb11⟩
        have q4 := q3.below hb11
        clear q3 n1 n2 hb11
        have hnw : ∀ W, Below V.heap.size V W → Calls Tryd.prog 28 #[ntV N A c] W fun e w' => e = .returned (.tuple #[.pointer none, .int .i64 1]) ∧ Below W.heap.size W w' := fun W hb => (new_any W N A c (by omega) hsl (hnt W hb)).mono fun e w' h => h.elim (fun h => absurd h.1 hne) (fun h => by rw [hE] at h; exact h.2)
        have hsk : ∀ W, Below V.heap.size V W → Calls Tryd.prog 14 #[ntV N A c, .agg #[.int .u64 0, .int .u64 0]] W fun e w' => e = .returned (.tuple #[.agg #[.int .u64 0, .int .u64 0], .bool false, .int .i64 1]) ∧ Below W.heap.size W w' := fun W hb => by
          have h := seek_any W N A c 0 hlen (hnt W hb) isSet_zero (htb W hb)
          rw [none_sk hne, hE] at h
          exact h
        have hrk : ∀ W, Below V.heap.size V W → Calls Tryd.prog 22 #[ntV N A c, .agg #[.int .u64 0, .int .u64 0]] W fun e w' => e = .returned (.tuple #[natV 0, .int .i64 1]) ∧ Below W.heap.size W w' := fun W hb => by
          have h := rank_any W N A c 0 hlen (hnt W hb) isSet_zero (htb W hb)
          rw [none_rk hne, hE] at h
          exact h
        have hat : ∀ W, Below V.heap.size V W → Calls Tryd.prog 23 #[ntV N A c, natV 0] W fun e w' => e = .returned (.tuple #[.agg #[.int .u64 0, .int .u64 0], .bool false, .int .i64 1]) ∧ Below W.heap.size W w' := fun W hb => by
          have h := at_any W N A c 0 hlen (hnt W hb) (by decide +kernel) (htb W hb)
          rw [none_at hne, hE] at h
          exact h
        have hof : ∀ W, Calls Tryd.prog 20 #[.int .u64 0] W fun e w' => e = .returned (natV 0) ∧ Below W.heap.size W w' := fun W => of_any W 0 (by decide)
        have HNW := Lib.hid hnw
        have HSK := Lib.hid hsk
        have HRK := Lib.hid hrk
        have HAT := Lib.hid hat
        have HOF := Lib.hid hof
        clear hnw hsk hrk hat hof hne hE
        have n1 := q4.is (w.heap.size) 2 24 #[.int .i64 N.n, .slice A N.l.length c] (by simp) 0 (by decide) (.int .i64 N.n) rfl
        have n2 := q4.is (w.heap.size) 2 24 #[.int .i64 N.n, .slice A N.l.length c] (by simp) 1 (by decide) (.slice A N.l.length c) rfl
        go_wp2_with fail
        refine (HCK.out _ q4.base).mono ?_
        rintro e w6 ⟨rfl, hb6⟩
        have q5 := q4.below hb6
        clear n1 n2 q4 hb6
        have n1 := q5.is (w.heap.size) 2 24 #[.int .i64 N.n, .slice A N.l.length c] (by simp) 0 (by decide) (.int .i64 N.n) rfl
        have n2 := q5.is (w.heap.size) 2 24 #[.int .i64 N.n, .slice A N.l.length c] (by simp) 1 (by decide) (.slice A N.l.length c) rfl
        go_wp2_with fail
        refine (HNW.out _ q5.base).mono ?_
        rintro e w7 ⟨rfl, hb7⟩
        have q7 := q5.below hb7
        clear n1 n2 q5 hb7
        have n1 := q7.is (w.heap.size) 2 24 #[.int .i64 N.n, .slice A N.l.length c] (by simp) 0 (by decide) (.int .i64 N.n) rfl
        have n2 := q7.is (w.heap.size) 2 24 #[.int .i64 N.n, .slice A N.l.length c] (by simp) 1 (by decide) (.slice A N.l.length c) rfl
        go_wp2_with fail
        refine (HSK.out _ q7.base).mono ?_
        rintro e w8 ⟨rfl, hb8⟩
        have q7' := q7.below hb8
        have q8 := q7'.new #[.int .u64 0, .int .u64 0] 27 w8.heap.size 2 rfl rfl
        clear n1 n2 q7 hb8
        have hz8 := q7'.tail.lt0
        have n1 := q7'.is (w.heap.size) 2 24 #[.int .i64 N.n, .slice A N.l.length c] (by simp) 0 (by decide) (.int .i64 N.n) rfl
        have n2 := q7'.is (w.heap.size) 2 24 #[.int .i64 N.n, .slice A N.l.length c] (by simp) 1 (by decide) (.slice A N.l.length c) rfl
        go_wp2_with fail
        refine (HRK.out _ q8.base).mono ?_
        rintro e w9 ⟨rfl, hb9⟩
        have q8' := q8.below hb9
        have q9 := q8'.new #[.string (natB 0)] 43 w9.heap.size 1 rfl rfl
        clear n1 n2 q8 hb9 q7' hz8
        have hz9 := q8'.tail.tail.lt0
        have n1 := q8'.is (w.heap.size) 2 24 #[.int .i64 N.n, .slice A N.l.length c] (by simp) 0 (by decide) (.int .i64 N.n) rfl
        have n2 := q8'.is (w.heap.size) 2 24 #[.int .i64 N.n, .slice A N.l.length c] (by simp) 1 (by decide) (.slice A N.l.length c) rfl
        go_wp2_with fail
        clear n1 n2 hz9 q8'
        obtain ⟨u9, hu9⟩ : ∃ u, w9.alloc (.cells #[.string (natB 0)] 43) = u := ⟨_, rfl⟩
        rw [hu9] at q9 ⊢
        clear hu9
        go_cut [18, 19, 20] from 80 to 85 (fun p x y wx => ∃ gx, p = .pointer (some ⟨gx, 0, none⟩) ∧ x = .bool false ∧ y = .int .i64 1 ∧ Bag w V V.heap.size ((gx, 27, 2, #[.int .u64 0, .int .u64 0]) :: [(w9.heap.size, 43, 1, #[.string (natB 0)]), (w8.heap.size, 27, 2, #[.int .u64 0, .int .u64 0]), (w.heap.size + 1, 27, 2, #[.int .u64 (lo a : Int), .int .u64 (hi a : Int)]), (w.heap.size, 24, 2, #[.int .i64 N.n, .slice A N.l.length c])]) wx)
        case first =>
          have q6 := q9.drew
          have hz := (q9.new #[.int .u64 0, .int .u64 0] 27 _ 2 rfl rfl).row0.drew
          have hX0 := q9.fresh
          have m1 := q6.is (w.heap.size) 2 24 #[.int .i64 N.n, .slice A N.l.length c] (by simp) 0 (by decide) (.int .i64 N.n) rfl
          have m2 := q6.is (w.heap.size) 2 24 #[.int .i64 N.n, .slice A N.l.length c] (by simp) 1 (by decide) (.slice A N.l.length c) rfl
          go_region_held3 (fun w' => w'.cell? ⟨w.heap.size, 0, none⟩ = some (.int .i64 N.n) ∧ w'.cell? ⟨w.heap.size, 1, none⟩ = some (.slice A N.l.length c))
            (first | exact ⟨m1, m2⟩ | exact ⟨putFar N1.out m1, putFar N2.out m2⟩ | exact ⟨(q9.alloc _).drew.is (w.heap.size) 2 24 #[.int .i64 N.n, .slice A N.l.length c] (by simp) 0 (by decide) (.int .i64 N.n) rfl, (q9.alloc _).drew.is (w.heap.size) 2 24 #[.int .i64 N.n, .slice A N.l.length c] (by simp) 1 (by decide) (.slice A N.l.length c) rfl⟩ | exact ⟨(q6.alloc _).is (w.heap.size) 2 24 #[.int .i64 N.n, .slice A N.l.length c] (by simp) 0 (by decide) (.int .i64 N.n) rfl, (q6.alloc _).is (w.heap.size) 2 24 #[.int .i64 N.n, .slice A N.l.length c] (by simp) 1 (by decide) (.slice A N.l.length c) rfl⟩ | go_keep)
            (first
              | (go_simp
                 go_at_call 20
                 (with_reducible first | refine (HOF.out _).mono ?_)
                 rintro e w9 ⟨rfl, hb9⟩
                 first
                   | (replace q6 := q6.below hb9
                      try replace hz6 := rowBelow hz6 hb9)
                   | (have hz6 := rowBelow hz hb9
                      have hX6 := hX0
                      have N1 := Lib.hid (Ne.symm (hX6.2 (w.heap.size, 24, 2, #[.int .i64 N.n, .slice A N.l.length c]) (by simp)))
                      have N2 := Lib.hid (Ne.symm (hX6.2 (w.heap.size, 24, 2, #[.int .i64 N.n, .slice A N.l.length c]) (by simp)))
                      replace q6 := (q9.alloc _).drew.below hb9)
                   | (have hX6 := q6.fresh
                      have N1 := Lib.hid (Ne.symm (hX6.2 (w.heap.size, 24, 2, #[.int .i64 N.n, .slice A N.l.length c]) (by simp)))
                      have N2 := Lib.hid (Ne.symm (hX6.2 (w.heap.size, 24, 2, #[.int .i64 N.n, .slice A N.l.length c]) (by simp)))
                      have hz6 := rowBelow (arrNew _ #[.int .u64 0, .int .u64 0] 27 _ 2 rfl rfl) hb9
                      replace q6 := (q6.alloc _).below hb9)
                 have m1 := q6.is (w.heap.size) 2 24 #[.int .i64 N.n, .slice A N.l.length c] (by simp) 0 (by decide) (.int .i64 N.n) rfl
                 have m2 := q6.is (w.heap.size) 2 24 #[.int .i64 N.n, .slice A N.l.length c] (by simp) 1 (by decide) (.slice A N.l.length c) rfl
                 try have y0 := hz6.frozen 0
                 try have z0 := hz6.cell (i := 0) (by omega)
                 try have y1 := hz6.frozen 1
                 try have z1 := hz6.cell (i := 1) (by omega))
              | (go_simp
                 go_at_call 23
                 (with_reducible first | refine (HAT.out _ q6.base).mono ?_ | refine (HAT.out _ (q9.alloc _).drew.base).mono ?_ | refine (HAT.out _ (q6.alloc _).base).mono ?_)
                 rintro e w9 ⟨rfl, hb9⟩
                 first
                   | (replace q6 := q6.below hb9
                      try replace hz6 := rowBelow hz6 hb9)
                   | (have hz6 := rowBelow hz hb9
                      have hX6 := hX0
                      have N1 := Lib.hid (Ne.symm (hX6.2 (w.heap.size, 24, 2, #[.int .i64 N.n, .slice A N.l.length c]) (by simp)))
                      have N2 := Lib.hid (Ne.symm (hX6.2 (w.heap.size, 24, 2, #[.int .i64 N.n, .slice A N.l.length c]) (by simp)))
                      replace q6 := (q9.alloc _).drew.below hb9)
                   | (have hX6 := q6.fresh
                      have N1 := Lib.hid (Ne.symm (hX6.2 (w.heap.size, 24, 2, #[.int .i64 N.n, .slice A N.l.length c]) (by simp)))
                      have N2 := Lib.hid (Ne.symm (hX6.2 (w.heap.size, 24, 2, #[.int .i64 N.n, .slice A N.l.length c]) (by simp)))
                      have hz6 := rowBelow (arrNew _ #[.int .u64 0, .int .u64 0] 27 _ 2 rfl rfl) hb9
                      replace q6 := (q6.alloc _).below hb9)
                 have m1 := q6.is (w.heap.size) 2 24 #[.int .i64 N.n, .slice A N.l.length c] (by simp) 0 (by decide) (.int .i64 N.n) rfl
                 have m2 := q6.is (w.heap.size) 2 24 #[.int .i64 N.n, .slice A N.l.length c] (by simp) 1 (by decide) (.slice A N.l.length c) rfl
                 try have y0 := hz6.frozen 0
                 try have z0 := hz6.cell (i := 0) (by omega)
                 try have y1 := hz6.frozen 1
                 try have z1 := hz6.cell (i := 1) (by omega)))
          all_goals
            try go_wp2
            go_meet
            case rel =>
              first
                | exact ⟨_, rfl, rfl, rfl, q6.new _ _ _ _ rfl rfl⟩
                | exact ⟨_, rfl, rfl, rfl, ((q6.other hX6.1 hX6.2 _ _).other hX6.1 hX6.2 _ _).cons (pairRow hz6 _ _)⟩
        case rest =>
          obtain ⟨gx, rfl, rfl, rfl, q10⟩ := hcut
          clear q9
          go_wp2_with fail
          have q := q10.drew
          have heqs : ∀ W, (Op.equalIn 10000 27 (.agg #[.int .u64 0, .int .u64 0]) (.agg #[.int .u64 0, .int .u64 0])).run Tryd.prog W = .ok true W := eq_same 0
          have heqn : ∀ W, (Op.equalIn 10000 43 (natV 0) (natV 0)).run Tryd.prog W = .ok true W := fun W => eq_nats 0 0 W
          have s0 := q.is gx 2 27 #[.int .u64 0, .int .u64 0] (by simp) 0 (by decide) (.int .u64 0) rfl
          have s1 := q.is gx 2 27 #[.int .u64 0, .int .u64 0] (by simp) 1 (by decide) (.int .u64 0) rfl
          have s2 := q.is w8.heap.size 2 27 #[.int .u64 0, .int .u64 0] (by simp) 0 (by decide) (.int .u64 0) rfl
          have s3 := q.is w8.heap.size 2 27 #[.int .u64 0, .int .u64 0] (by simp) 1 (by decide) (.int .u64 0) rfl
          have s4 := q.is w9.heap.size 1 43 #[.string (natB 0)] (by simp) 0 (by decide) (.string (natB 0)) rfl
          go_region_held3 (fun w' => w'.cell? ⟨gx, 0, none⟩ = some (.int .u64 0) ∧ w'.cell? ⟨gx, 1, none⟩ = some (.int .u64 0) ∧ w'.cell? ⟨w8.heap.size, 0, none⟩ = some (.int .u64 0) ∧ w'.cell? ⟨w8.heap.size, 1, none⟩ = some (.int .u64 0) ∧ w'.cell? ⟨w9.heap.size, 0, none⟩ = some (.string (natB 0)))
            (first | exact ⟨s0, s1, s2, s3, s4⟩ | go_keep)
            (first
              | (go_simp
                 go_at_call 20
                 (with_reducible first | refine (HOF.out _).mono ?_)
                 rintro e w12 ⟨rfl, hb12⟩
                 replace q := q.below hb12
                 have s0 := q.is gx 2 27 #[.int .u64 0, .int .u64 0] (by simp) 0 (by decide) (.int .u64 0) rfl
                 have s1 := q.is gx 2 27 #[.int .u64 0, .int .u64 0] (by simp) 1 (by decide) (.int .u64 0) rfl
                 have s2 := q.is w8.heap.size 2 27 #[.int .u64 0, .int .u64 0] (by simp) 0 (by decide) (.int .u64 0) rfl
                 have s3 := q.is w8.heap.size 2 27 #[.int .u64 0, .int .u64 0] (by simp) 1 (by decide) (.int .u64 0) rfl
                 have s4 := q.is w9.heap.size 1 43 #[.string (natB 0)] (by simp) 0 (by decide) (.string (natB 0)) rfl)
              | (go_simp
                 go_at_call 13
                 (with_reducible first | refine (HWK.out _ q.base).mono ?_)
                 rintro e w12 ⟨rfl, hb12⟩
                 replace q := q.below hb12
                 have s0 := q.is gx 2 27 #[.int .u64 0, .int .u64 0] (by simp) 0 (by decide) (.int .u64 0) rfl
                 have s1 := q.is gx 2 27 #[.int .u64 0, .int .u64 0] (by simp) 1 (by decide) (.int .u64 0) rfl
                 have s2 := q.is w8.heap.size 2 27 #[.int .u64 0, .int .u64 0] (by simp) 0 (by decide) (.int .u64 0) rfl
                 have s3 := q.is w8.heap.size 2 27 #[.int .u64 0, .int .u64 0] (by simp) 1 (by decide) (.int .u64 0) rfl
                 have s4 := q.is w9.heap.size 1 43 #[.string (natB 0)] (by simp) 0 (by decide) (.string (natB 0)) rfl))
          all_goals
            try go_wp2
            go_ret
            exact ⟨rfl, q.bl⟩
      · have hc0 : chk N = 0 := by unfold chk; rw [hv]; rfl
        simp only [hc0] at hck
        have HCK := Lib.hid hck
        have hdc := fun W hb => decomposable_g W N A c hlen (hnt W hb)
        rw [hv, Bool.true_and] at hdc
        clear hck hc0
        cases hd : dcmp N
        · have hE : lerr N 0 = 210 := by
            have := (lerr_want (N := N) (by rw [hv, hd]; rfl)).1
            rw [hv] at this; exact this
          have hne : lerr N 0 ≠ 0 := by rw [hE]; decide
          rw [hd] at hdc
          have HDC := Lib.hid hdc
          clear hdc hv hd
          go_wp2_with fail
          refine (HCK.out _ q3.base).mono ?_
          rintro e w11 ⟨rfl, hb11⟩
          have q3' := q3.below hb11
          clear q3 n1 n2 hb11
          have n1 := q3'.is (w.heap.size) 2 24 #[.int .i64 N.n, .slice A N.l.length c] (by simp) 0 (by decide) (.int .i64 N.n) rfl
          have n2 := q3'.is (w.heap.size) 2 24 #[.int .i64 N.n, .slice A N.l.length c] (by simp) 1 (by decide) (.slice A N.l.length c) rfl
          go_wp2_with fail
          refine (HDC.out _ q3'.base).mono ?_
          rintro e w11' ⟨rfl, hb11⟩
          have q4 := q3'.below hb11
          clear q3' n1 n2 hb11 HDC
          have hnw : ∀ W, Below V.heap.size V W → Calls Tryd.prog 28 #[ntV N A c] W fun e w' => e = .returned (.tuple #[.pointer none, .int .i64 210]) ∧ Below W.heap.size W w' := fun W hb => (new_any W N A c (by omega) hsl (hnt W hb)).mono fun e w' h => h.elim (fun h => absurd h.1 hne) (fun h => by rw [hE] at h; exact h.2)
          have hsk : ∀ W, Below V.heap.size V W → Calls Tryd.prog 14 #[ntV N A c, .agg #[.int .u64 0, .int .u64 0]] W fun e w' => e = .returned (.tuple #[.agg #[.int .u64 0, .int .u64 0], .bool false, .int .i64 210]) ∧ Below W.heap.size W w' := fun W hb => by
            have h := seek_any W N A c 0 hlen (hnt W hb) isSet_zero (htb W hb)
            rw [none_sk hne, hE] at h
            exact h
          have hrk : ∀ W, Below V.heap.size V W → Calls Tryd.prog 22 #[ntV N A c, .agg #[.int .u64 0, .int .u64 0]] W fun e w' => e = .returned (.tuple #[natV 0, .int .i64 210]) ∧ Below W.heap.size W w' := fun W hb => by
            have h := rank_any W N A c 0 hlen (hnt W hb) isSet_zero (htb W hb)
            rw [none_rk hne, hE] at h
            exact h
          have hat : ∀ W, Below V.heap.size V W → Calls Tryd.prog 23 #[ntV N A c, natV 0] W fun e w' => e = .returned (.tuple #[.agg #[.int .u64 0, .int .u64 0], .bool false, .int .i64 210]) ∧ Below W.heap.size W w' := fun W hb => by
            have h := at_any W N A c 0 hlen (hnt W hb) (by decide +kernel) (htb W hb)
            rw [none_at hne, hE] at h
            exact h
          have hof : ∀ W, Calls Tryd.prog 20 #[.int .u64 0] W fun e w' => e = .returned (natV 0) ∧ Below W.heap.size W w' := fun W => of_any W 0 (by decide)
          have HNW := Lib.hid hnw
          have HSK := Lib.hid hsk
          have HRK := Lib.hid hrk
          have HAT := Lib.hid hat
          have HOF := Lib.hid hof
          clear hnw hsk hrk hat hof hne hE
          have n1 := q4.is (w.heap.size) 2 24 #[.int .i64 N.n, .slice A N.l.length c] (by simp) 0 (by decide) (.int .i64 N.n) rfl
          have n2 := q4.is (w.heap.size) 2 24 #[.int .i64 N.n, .slice A N.l.length c] (by simp) 1 (by decide) (.slice A N.l.length c) rfl
          go_wp2_with fail
          refine (HCK.out _ q4.base).mono ?_
          rintro e w6 ⟨rfl, hb6⟩
          have q5 := q4.below hb6
          clear n1 n2 q4 hb6
          have n1 := q5.is (w.heap.size) 2 24 #[.int .i64 N.n, .slice A N.l.length c] (by simp) 0 (by decide) (.int .i64 N.n) rfl
          have n2 := q5.is (w.heap.size) 2 24 #[.int .i64 N.n, .slice A N.l.length c] (by simp) 1 (by decide) (.slice A N.l.length c) rfl
          go_wp2_with fail
          refine (HNW.out _ q5.base).mono ?_
          rintro e w7 ⟨rfl, hb7⟩
          have q7 := q5.below hb7
          clear n1 n2 q5 hb7
          have n1 := q7.is (w.heap.size) 2 24 #[.int .i64 N.n, .slice A N.l.length c] (by simp) 0 (by decide) (.int .i64 N.n) rfl
          have n2 := q7.is (w.heap.size) 2 24 #[.int .i64 N.n, .slice A N.l.length c] (by simp) 1 (by decide) (.slice A N.l.length c) rfl
          go_wp2_with fail
          refine (HSK.out _ q7.base).mono ?_
          rintro e w8 ⟨rfl, hb8⟩
          have q7' := q7.below hb8
          have q8 := q7'.new #[.int .u64 0, .int .u64 0] 27 w8.heap.size 2 rfl rfl
          clear n1 n2 q7 hb8
          have hz8 := q7'.tail.lt0
          have n1 := q7'.is (w.heap.size) 2 24 #[.int .i64 N.n, .slice A N.l.length c] (by simp) 0 (by decide) (.int .i64 N.n) rfl
          have n2 := q7'.is (w.heap.size) 2 24 #[.int .i64 N.n, .slice A N.l.length c] (by simp) 1 (by decide) (.slice A N.l.length c) rfl
          go_wp2_with fail
          refine (HRK.out _ q8.base).mono ?_
          rintro e w9 ⟨rfl, hb9⟩
          have q8' := q8.below hb9
          have q9 := q8'.new #[.string (natB 0)] 43 w9.heap.size 1 rfl rfl
          clear n1 n2 q8 hb9 q7' hz8
          have hz9 := q8'.tail.tail.lt0
          have n1 := q8'.is (w.heap.size) 2 24 #[.int .i64 N.n, .slice A N.l.length c] (by simp) 0 (by decide) (.int .i64 N.n) rfl
          have n2 := q8'.is (w.heap.size) 2 24 #[.int .i64 N.n, .slice A N.l.length c] (by simp) 1 (by decide) (.slice A N.l.length c) rfl
          go_wp2_with fail
          clear n1 n2 hz9 q8'
          obtain ⟨u9, hu9⟩ : ∃ u, w9.alloc (.cells #[.string (natB 0)] 43) = u := ⟨_, rfl⟩
          rw [hu9] at q9 ⊢
          clear hu9
          go_cut [18, 19, 20] from 80 to 85 (fun p x y wx => ∃ gx, p = .pointer (some ⟨gx, 0, none⟩) ∧ x = .bool false ∧ y = .int .i64 210 ∧ Bag w V V.heap.size ((gx, 27, 2, #[.int .u64 0, .int .u64 0]) :: [(w9.heap.size, 43, 1, #[.string (natB 0)]), (w8.heap.size, 27, 2, #[.int .u64 0, .int .u64 0]), (w.heap.size + 1, 27, 2, #[.int .u64 (lo a : Int), .int .u64 (hi a : Int)]), (w.heap.size, 24, 2, #[.int .i64 N.n, .slice A N.l.length c])]) wx)
          case first =>
            have q6 := q9.drew
            have hz := (q9.new #[.int .u64 0, .int .u64 0] 27 _ 2 rfl rfl).row0.drew
            have hX0 := q9.fresh
            have m1 := q6.is (w.heap.size) 2 24 #[.int .i64 N.n, .slice A N.l.length c] (by simp) 0 (by decide) (.int .i64 N.n) rfl
            have m2 := q6.is (w.heap.size) 2 24 #[.int .i64 N.n, .slice A N.l.length c] (by simp) 1 (by decide) (.slice A N.l.length c) rfl
            go_region_held3 (fun w' => w'.cell? ⟨w.heap.size, 0, none⟩ = some (.int .i64 N.n) ∧ w'.cell? ⟨w.heap.size, 1, none⟩ = some (.slice A N.l.length c))
              (first | exact ⟨m1, m2⟩ | exact ⟨putFar N1.out m1, putFar N2.out m2⟩ | exact ⟨(q9.alloc _).drew.is (w.heap.size) 2 24 #[.int .i64 N.n, .slice A N.l.length c] (by simp) 0 (by decide) (.int .i64 N.n) rfl, (q9.alloc _).drew.is (w.heap.size) 2 24 #[.int .i64 N.n, .slice A N.l.length c] (by simp) 1 (by decide) (.slice A N.l.length c) rfl⟩ | exact ⟨(q6.alloc _).is (w.heap.size) 2 24 #[.int .i64 N.n, .slice A N.l.length c] (by simp) 0 (by decide) (.int .i64 N.n) rfl, (q6.alloc _).is (w.heap.size) 2 24 #[.int .i64 N.n, .slice A N.l.length c] (by simp) 1 (by decide) (.slice A N.l.length c) rfl⟩ | go_keep)
              (first
                | (go_simp
                   go_at_call 20
                   (with_reducible first | refine (HOF.out _).mono ?_)
                   rintro e w9 ⟨rfl, hb9⟩
                   first
                     | (replace q6 := q6.below hb9
                        try replace hz6 := rowBelow hz6 hb9)
                     | (have hz6 := rowBelow hz hb9
                        have hX6 := hX0
                        have N1 := Lib.hid (Ne.symm (hX6.2 (w.heap.size, 24, 2, #[.int .i64 N.n, .slice A N.l.length c]) (by simp)))
                        have N2 := Lib.hid (Ne.symm (hX6.2 (w.heap.size, 24, 2, #[.int .i64 N.n, .slice A N.l.length c]) (by simp)))
                        replace q6 := (q9.alloc _).drew.below hb9)
                     | (have hX6 := q6.fresh
                        have N1 := Lib.hid (Ne.symm (hX6.2 (w.heap.size, 24, 2, #[.int .i64 N.n, .slice A N.l.length c]) (by simp)))
                        have N2 := Lib.hid (Ne.symm (hX6.2 (w.heap.size, 24, 2, #[.int .i64 N.n, .slice A N.l.length c]) (by simp)))
                        have hz6 := rowBelow (arrNew _ #[.int .u64 0, .int .u64 0] 27 _ 2 rfl rfl) hb9
                        replace q6 := (q6.alloc _).below hb9)
                   have m1 := q6.is (w.heap.size) 2 24 #[.int .i64 N.n, .slice A N.l.length c] (by simp) 0 (by decide) (.int .i64 N.n) rfl
                   have m2 := q6.is (w.heap.size) 2 24 #[.int .i64 N.n, .slice A N.l.length c] (by simp) 1 (by decide) (.slice A N.l.length c) rfl
                   try have y0 := hz6.frozen 0
                   try have z0 := hz6.cell (i := 0) (by omega)
                   try have y1 := hz6.frozen 1
                   try have z1 := hz6.cell (i := 1) (by omega))
                | (go_simp
                   go_at_call 23
                   (with_reducible first | refine (HAT.out _ q6.base).mono ?_ | refine (HAT.out _ (q9.alloc _).drew.base).mono ?_ | refine (HAT.out _ (q6.alloc _).base).mono ?_)
                   rintro e w9 ⟨rfl, hb9⟩
                   first
                     | (replace q6 := q6.below hb9
                        try replace hz6 := rowBelow hz6 hb9)
                     | (have hz6 := rowBelow hz hb9
                        have hX6 := hX0
                        have N1 := Lib.hid (Ne.symm (hX6.2 (w.heap.size, 24, 2, #[.int .i64 N.n, .slice A N.l.length c]) (by simp)))
                        have N2 := Lib.hid (Ne.symm (hX6.2 (w.heap.size, 24, 2, #[.int .i64 N.n, .slice A N.l.length c]) (by simp)))
                        replace q6 := (q9.alloc _).drew.below hb9)
                     | (have hX6 := q6.fresh
                        have N1 := Lib.hid (Ne.symm (hX6.2 (w.heap.size, 24, 2, #[.int .i64 N.n, .slice A N.l.length c]) (by simp)))
                        have N2 := Lib.hid (Ne.symm (hX6.2 (w.heap.size, 24, 2, #[.int .i64 N.n, .slice A N.l.length c]) (by simp)))
                        have hz6 := rowBelow (arrNew _ #[.int .u64 0, .int .u64 0] 27 _ 2 rfl rfl) hb9
                        replace q6 := (q6.alloc _).below hb9)
                   have m1 := q6.is (w.heap.size) 2 24 #[.int .i64 N.n, .slice A N.l.length c] (by simp) 0 (by decide) (.int .i64 N.n) rfl
                   have m2 := q6.is (w.heap.size) 2 24 #[.int .i64 N.n, .slice A N.l.length c] (by simp) 1 (by decide) (.slice A N.l.length c) rfl
                   try have y0 := hz6.frozen 0
                   try have z0 := hz6.cell (i := 0) (by omega)
                   try have y1 := hz6.frozen 1
                   try have z1 := hz6.cell (i := 1) (by omega)))
            all_goals
              try go_wp2
              go_meet
              case rel =>
                first
                  | exact ⟨_, rfl, rfl, rfl, q6.new _ _ _ _ rfl rfl⟩
                  | exact ⟨_, rfl, rfl, rfl, ((q6.other hX6.1 hX6.2 _ _).other hX6.1 hX6.2 _ _).cons (pairRow hz6 _ _)⟩
          case rest =>
            obtain ⟨gx, rfl, rfl, rfl, q10⟩ := hcut
            clear q9
            go_wp2_with fail
            have q := q10.drew
            have heqs : ∀ W, (Op.equalIn 10000 27 (.agg #[.int .u64 0, .int .u64 0]) (.agg #[.int .u64 0, .int .u64 0])).run Tryd.prog W = .ok true W := eq_same 0
            have heqn : ∀ W, (Op.equalIn 10000 43 (natV 0) (natV 0)).run Tryd.prog W = .ok true W := fun W => eq_nats 0 0 W
            have s0 := q.is gx 2 27 #[.int .u64 0, .int .u64 0] (by simp) 0 (by decide) (.int .u64 0) rfl
            have s1 := q.is gx 2 27 #[.int .u64 0, .int .u64 0] (by simp) 1 (by decide) (.int .u64 0) rfl
            have s2 := q.is w8.heap.size 2 27 #[.int .u64 0, .int .u64 0] (by simp) 0 (by decide) (.int .u64 0) rfl
            have s3 := q.is w8.heap.size 2 27 #[.int .u64 0, .int .u64 0] (by simp) 1 (by decide) (.int .u64 0) rfl
            have s4 := q.is w9.heap.size 1 43 #[.string (natB 0)] (by simp) 0 (by decide) (.string (natB 0)) rfl
            go_region_held3 (fun w' => w'.cell? ⟨gx, 0, none⟩ = some (.int .u64 0) ∧ w'.cell? ⟨gx, 1, none⟩ = some (.int .u64 0) ∧ w'.cell? ⟨w8.heap.size, 0, none⟩ = some (.int .u64 0) ∧ w'.cell? ⟨w8.heap.size, 1, none⟩ = some (.int .u64 0) ∧ w'.cell? ⟨w9.heap.size, 0, none⟩ = some (.string (natB 0)))
              (first | exact ⟨s0, s1, s2, s3, s4⟩ | go_keep)
              (first
                | (go_simp
                   go_at_call 20
                   (with_reducible first | refine (HOF.out _).mono ?_)
                   rintro e w12 ⟨rfl, hb12⟩
                   replace q := q.below hb12
                   have s0 := q.is gx 2 27 #[.int .u64 0, .int .u64 0] (by simp) 0 (by decide) (.int .u64 0) rfl
                   have s1 := q.is gx 2 27 #[.int .u64 0, .int .u64 0] (by simp) 1 (by decide) (.int .u64 0) rfl
                   have s2 := q.is w8.heap.size 2 27 #[.int .u64 0, .int .u64 0] (by simp) 0 (by decide) (.int .u64 0) rfl
                   have s3 := q.is w8.heap.size 2 27 #[.int .u64 0, .int .u64 0] (by simp) 1 (by decide) (.int .u64 0) rfl
                   have s4 := q.is w9.heap.size 1 43 #[.string (natB 0)] (by simp) 0 (by decide) (.string (natB 0)) rfl)
                | (go_simp
                   go_at_call 13
                   (with_reducible first | refine (HWK.out _ q.base).mono ?_)
                   rintro e w12 ⟨rfl, hb12⟩
                   replace q := q.below hb12
                   have s0 := q.is gx 2 27 #[.int .u64 0, .int .u64 0] (by simp) 0 (by decide) (.int .u64 0) rfl
                   have s1 := q.is gx 2 27 #[.int .u64 0, .int .u64 0] (by simp) 1 (by decide) (.int .u64 0) rfl
                   have s2 := q.is w8.heap.size 2 27 #[.int .u64 0, .int .u64 0] (by simp) 0 (by decide) (.int .u64 0) rfl
                   have s3 := q.is w8.heap.size 2 27 #[.int .u64 0, .int .u64 0] (by simp) 1 (by decide) (.int .u64 0) rfl
                   have s4 := q.is w9.heap.size 1 43 #[.string (natB 0)] (by simp) 0 (by decide) (.string (natB 0)) rfl))
            all_goals
              try go_wp2
              go_ret
              exact ⟨rfl, q.bl⟩
        · rw [hd] at hdc
          have HDC := Lib.hid hdc
          clear hdc hv hd
          go_wp2_with fail
          refine (HCK.out _ q3.base).mono ?_
          rintro e w11 ⟨rfl, hb11⟩
          have q3' := q3.below hb11
          clear q3 n1 n2 hb11
          have n1 := q3'.is (w.heap.size) 2 24 #[.int .i64 N.n, .slice A N.l.length c] (by simp) 0 (by decide) (.int .i64 N.n) rfl
          have n2 := q3'.is (w.heap.size) 2 24 #[.int .i64 N.n, .slice A N.l.length c] (by simp) 1 (by decide) (.slice A N.l.length c) rfl
          go_wp2_with fail
          refine (HDC.out _ q3'.base).mono ?_
          rintro e w11' ⟨rfl, hb11⟩
          have q4 := q3'.below hb11
          go_wp2_with fail
          refine (HWK.out _ q4.base).mono ?_
          rintro e w12 ⟨rfl, hb12⟩
          go_wp2
          go_ret
          exact ⟨rfl, (q4.below hb12).bl⟩
set_option maxRecDepth 100000 in
set_option maxHeartbeats 1000000 in
theorem none_no (w : World) (N : Nt) (A : Option Addr) (c a : Nat) (hlen : N.l.length ≤ 140737488355328) (hN : NtAt w w.heap.size A N.l) (hL : lightB N 100 = false) (hT : Tab w) :
    Calls Tryd.prog 10 #[ntV N A c, setV a] w fun e w' => e = .returned (.bool true) ∧ Below w.heap.size w w' := by
  have hq0 : Bag w ((w.alloc (.cells #[.int .i64 N.n, .slice A N.l.length c] 24)).alloc (.cells #[.int .u64 (lo a : Int), .int .u64 (hi a : Int)] 27)) ((w.alloc (.cells #[.int .i64 N.n, .slice A N.l.length c] 24)).alloc (.cells #[.int .u64 (lo a : Int), .int .u64 (hi a : Int)] 27)).heap.size [(w.heap.size + 1, 27, 2, #[.int .u64 (lo a : Int), .int .u64 (hi a : Int)]), (w.heap.size, 24, 2, #[.int .i64 N.n, .slice A N.l.length c])] ((w.alloc (.cells #[.int .i64 N.n, .slice A N.l.length c] 24)).alloc (.cells #[.int .u64 (lo a : Int), .int .u64 (hi a : Int)] 27)) := (((Bag.start (Below.refl _ w)).new _ _ _ 2 rfl rfl).new _ _ (w.heap.size + 1) 2 (by simp) rfl).rebase
  obtain ⟨V, hV⟩ : ∃ V, (w.alloc (.cells #[.int .i64 N.n, .slice A N.l.length c] 24)).alloc (.cells #[.int .u64 (lo a : Int), .int .u64 (hi a : Int)] 27) = V := ⟨_, rfl⟩
  rw [hV] at hq0
  have hwV : Below w.heap.size w V := by rw [← hV]; exact ((Below.refl _ _).alloc (Nat.le_refl _) _).alloc (by simp) _
  have hnt : ∀ W, Below V.heap.size V W → NtAt W W.heap.size A N.l := fun W hb => ((hN.below hwV).below (hb.mono hwV.size)).more (Nat.le_trans hwV.size hb.size)
  have htb : ∀ W, Below V.heap.size V W → Tab W := fun W hb => (hT.below hwV).below hb
  have hli := fun W hb => light_any W N A c 100 hlen (hnt W hb) (by omega)
  have hwk := fun W hb => works_any W (htb W hb)
  rw [hL] at hli
  have HLI := Lib.hid hli
  have HWK := Lib.hid hwk
  have HV := Lib.hid hV
  have hwz : w.heap.size + 1 < V.heap.size := hq0.lt0
  clear hli hwk hV hN hL
  go_enter Tryd.func10, Tryd.ntmps10
  go_wp2_with fail
  rw [HV.out]
  have n1 := hq0.is (w.heap.size) 2 24 #[.int .i64 N.n, .slice A N.l.length c] (by simp) 0 (by decide) (.int .i64 N.n) rfl
  have n2 := hq0.is (w.heap.size) 2 24 #[.int .i64 N.n, .slice A N.l.length c] (by simp) 1 (by decide) (.slice A N.l.length c) rfl
  go_wp2_with fail
  refine (HLI.out _ hq0.base).mono ?_
  rintro e w5 ⟨rfl, hb5⟩
  have q1 := hq0.below hb5
  go_wp2_with fail
  refine (HWK.out _ q1.base).mono ?_
  rintro e w6 ⟨rfl, hb6⟩
  go_wp2
  go_ret
  exact ⟨rfl, (q1.below hb6).bl⟩
theorem lnone_any (w : World) (N : Nt) (A : Option Addr) (c a : Nat) (hlen : N.l.length ≤ 140737488355328) (hN : NtAt w w.heap.size A N.l) (hT : Tab w) :
    Calls Tryd.prog 10 #[ntV N A c, setV a] w fun e w' => e = .returned (.bool true) ∧ Below w.heap.size w w' := by
  cases hL : lightB N 100
  · exact none_no w N A c a hlen hN hL hT
  · exact none_main w N A c a hlen hN hL hT
end Go.Proofs.YtemgfhdgpkmmaaaDoor
