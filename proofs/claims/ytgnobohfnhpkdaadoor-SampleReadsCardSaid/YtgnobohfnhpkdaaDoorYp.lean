/- The walk of SampleReads, where something is drawn. The walk of SampleReads, for every argument. -/
import Derived.Test.YtgnobohfnhpkdaaDoorYo
import Derived.Laws.OwnMore
import Derived.WalkMore
import Derived.Deep.CutBlock
/-! The walk of SampleReads, where something is drawn. -/
section
set_option linter.unusedSimpArgs false
set_option linter.unusedVariables false
open Go Go.RowKit Cs
namespace Cs
/-- An own slice, as one that is read. -/
theorem own_rd {w : World} {base : Nat} {e : TypeId} {v : Value} {n : Nat} {xs : List Value} {f : Nat → Value} (h : w.ownsRow base e 1 v n xs) (hf : ∀ i, i < n → xs[i]? = some (f i)) : ∃ A c, v = .slice A n c ∧ Rd w w.heap.size A n f := by
  rcases h.2 with ⟨h1, h2⟩ | ⟨g, cap, cur, h1, _⟩
  · exact ⟨none, 0, by rw [h1, h2], by rw [h2]; exact Rd.zero _ _ _ _⟩
  · refine ⟨some ⟨g, 0, none⟩, cap, h1, ?_⟩
    subst h1
    exact Rd.of_own h hf
theorem belowGrownV {B : Nat} {a w w' : World} {e : TypeId} {size : Nat} {v : Value} {n : Nat} {xs : List Value} (ho : w.ownsRow B e size v n xs) (h : Below B a w) (hB : B ≤ w.heap.size) (hg : w.grownBy w' v.ownBlock) : Below B a w' := by
  cases hv : v.ownBlock with
  | none => rw [hv] at hg; exact h.trans ⟨hg.os, hg.tape, hg.output, hg.size, fun k hk => hg.block k (by omega) (by simp)⟩
  | some g =>
    rw [hv] at hg
    obtain ⟨h1, h2⟩ := ho.lt g hv
    exact belowGrown h hg (by omega) h1
end Cs
namespace Go.Proofs.YtgnobohfnhpkdaaDoor
set_option maxRecDepth 100000 in
set_option maxHeartbeats 4000000 in
theorem reads_some (w : World) (N : Nt) (A Ab Ao : Option Addr) (c lb cb lo co : Nat) (bs other : List Nat) (r u : Nat) (hlen : N.l.length ≤ 140737488355328) (hN : NtAt w w.heap.size A N.l) (hT : Tab w) (hf : fewS N lb = true) (h64 : lo ≤ 64) (hlb : lb ≤ 64)
    (hl : bs.length = lb) (hlc : lb ≤ cb) (hnb : Ab = none → cb = 0) (hbs : Rd w w.heap.size Ab lb (byF bs)) (hb8 : ∀ i, bs.getD i 0 < 256)
    (hlo : other.length = lo) (hno : Ao = none → lo = 0 ∧ co = 0) (hos : Rd w w.heap.size Ao lo (byF other)) (ho8 : ∀ i, other.getD i 0 < 256) (hin : ∀ k (hk : k < N.l.length), N.l[k].ins.length ≤ 1000000)
    (hne : needE N = 0) (hck : cchk N = 0) (hcn : cntN N ≠ 0) (hnk : needK N = nd 2 (cntN N - 1)) (hd : drawN (cntN N) bs = some (r, u)) :
    Calls Tryd.prog 3 #[ntV N A c, .slice Ab lb cb, .slice Ao lo co] w fun e w' => e = .returned (.bool true) ∧ Below w.heap.size w w' := by
  obtain ⟨hu8, hxr, ⟨q, hq⟩, hku⟩ := drawN_at hd
  rw [hl] at hu8
  rw [← hnk] at hq hku
  obtain ⟨a, ha⟩ : ∃ a, choiceN N N.n.toNat (onesP N.n.toNat) (onesP N.n.toNat) r = a := ⟨_, rfl⟩
  have hdw : ∀ bs', drawN (cntN N) bs' = some (r, u) → dwR N bs' = ⟨a, u, true, 0⟩ := fun bs' h => by rw [dw_of hck hcn, h, ← ha]; rfl
  have hdn : ∀ bs', drawN (cntN N) bs' = none → dwR N bs' = Tk.no 0 := fun bs' h => by rw [dw_of hck hcn, h]; rfl
  have hnx := drawN_same hd (bs' := nextB bs u other) (by rw [nextB_len bs u other (by omega)]; omega) (fun i hi => (nextB_bit bs u other (by omega) i hi).symm)
  have hls : 0 < u → drawN (cntN N) (bs.take ((u - 1) / 8)) = none := fun hu => drawN_less hd (by rw [List.length_take]; omega) (fun i hi => take_bit bs _ (by omega) i hi)
  have hnl := nextB_len bs u other (by omega)
  rw [hlo] at hnl
  have hn8 : ∀ i, (nextB bs u other).getD i 0 < 256 := by
    have h1 : ∀ x ∈ nextB bs u other, x < 256 := fun x hx => by
      unfold nextB at hx
      rcases List.mem_append.1 hx with hx | hx
      · have h3 : ∀ x ∈ bs.take ((u + 7) / 8), x < 256 := fun x hx => by
          obtain ⟨i, hi, rfl⟩ := List.getElem_of_mem (List.mem_of_mem_take hx)
          have := hb8 i
          rwa [List.getD_eq_getElem?_getD, List.getElem?_eq_getElem hi] at this
        split at hx
        · exact h3 x hx
        · rcases List.mem_or_eq_of_mem_set hx with hx | rfl
          · exact h3 x hx
          · exact flip_lt _ _ (hb8 _)
      · obtain ⟨i, hi, rfl⟩ := List.getElem_of_mem hx
        have := ho8 i
        rwa [List.getD_eq_getElem?_getD, List.getElem?_eq_getElem hi] at this
    intro i
    rw [List.getD_eq_getElem?_getD]
    rcases Nat.lt_or_ge i (nextB bs u other).length with hi | hi
    · rw [List.getElem?_eq_getElem hi]; exact h1 _ (List.getElem_mem hi)
    · rw [List.getElem?_eq_none hi]; decide
  have htv : ∀ bs', drawN (cntN N) bs' = some (r, u) → tkV (dwR N bs') = .tuple #[setV a, .int .i64 (u : Int), .bool true, .int .i64 0] := fun bs' h => by rw [hdw bs' h]; rfl
  have hd1 : ∀ W, NtAt W W.heap.size A N.l → Tab W → Rd W W.heap.size Ab lb (byF bs) → Calls Tryd.prog 6 #[ntV N A c, .slice Ab lb cb] W fun e w' => e = .returned (.tuple #[setV a, .int .i64 (u : Int), .bool true, .int .i64 0]) ∧ Below W.heap.size W w' := fun W h1 h2 h3 => by
    rw [← htv bs hd]
    exact sdraw_any W N A c lb cb bs Ab hlen h1 h2 hin hl (by omega) h3 hb8
  obtain ⟨L, hL⟩ : ∃ L, (u + 7) / 8 + lo = L := ⟨_, rfl⟩
  have hd2 : ∀ W A' c', NtAt W W.heap.size A N.l → Tab W → Rd W W.heap.size A' L (byF (nextB bs u other)) → Calls Tryd.prog 6 #[ntV N A c, .slice A' L c'] W fun e w' => e = .returned (.tuple #[setV a, .int .i64 (u : Int), .bool true, .int .i64 0]) ∧ Below W.heap.size W w' := fun W A' c' h1 h2 h3 => by
    subst hL
    rw [← htv _ hnx]
    exact sdraw_any W N A c _ c' (nextB bs u other) A' hlen h1 h2 hin hnl (by omega) h3 hn8
  have hd3 : 0 < u → ∀ W, NtAt W W.heap.size A N.l → Tab W → Rd W W.heap.size Ab lb (byF bs) → Calls Tryd.prog 6 #[ntV N A c, .slice Ab ((u - 1) / 8) cb] W fun e w' => e = .returned (.tuple #[.agg #[.int .u64 0, .int .u64 0], .int .i64 0, .bool false, .int .i64 0]) ∧ Below W.heap.size W w' := fun hu W h1 h2 h3 => by
    have e : tkV (dwR N (bs.take ((u - 1) / 8))) = .tuple #[.agg #[.int .u64 0, .int .u64 0], .int .i64 0, .bool false, .int .i64 0] := by
      rw [hdn _ (hls hu)]
      show Value.tuple #[setV 0, _, _, _] = _
      have e1 : setV 0 = .agg #[.int .u64 0, .int .u64 0] := by
        unfold setV; rw [show Cs.lo 0 = 0 by decide, show Cs.hi 0 = 0 by decide]; rfl
      rw [e1]; rfl
    rw [← e]
    refine sdraw_any W N A c _ cb (bs.take ((u - 1) / 8)) Ab hlen h1 h2 hin (by rw [List.length_take]; omega) (by omega) ((h3.take (by omega)).congr fun i hi => ?_) (fun i => ?_)
    · unfold byF
      rw [List.getD_eq_getElem?_getD, List.getD_eq_getElem?_getD, List.getElem?_take_of_lt hi]
    · rw [List.getD_eq_getElem?_getD, List.getElem?_take]
      split
      · have := hb8 i; rwa [List.getD_eq_getElem?_getD] at this
      · decide
  have hnd := fun W hN hT => need_any W N A c hlen hN hT
  rw [hne] at hnd
  obtain ⟨k, hk⟩ : ∃ k, needK N = k := ⟨_, rfl⟩
  rw [hk] at hnd hq hku
  have hfw := fun W hN => fewS_any W N A Ab c lb cb hlen hN
  rw [hf] at hfw
  have HFW := Lib.hid hfw
  have HLL := Lib.hid hL
  clear hL
  have HND := Lib.hid hnd
  have HD1 := Lib.hid hd1
  have HD2 := Lib.hid hd2
  have HD3 := Lib.hid hd3
  have HBS := Lib.hid hbs
  have HOS := Lib.hid hos
  have HNO := Lib.hid hno
  have HNB := Lib.hid hnb
  have HL := Lib.hid hl
  have HLO := Lib.hid hlo
  have HNL := Lib.hid hnl
  have HB8 := Lib.hid hb8
  have he : ∀ w, (Op.equalIn 10000 30 (.agg #[.int .u64 (Cs.lo a : Int), .int .u64 (Cs.hi a : Int)]) (.agg #[.int .u64 (Cs.lo a : Int), .int .u64 (Cs.hi a : Int)])).run Tryd.prog w = .ok true w := fun w => eq_self_set a w
  have d0 : decide ((64 : Int) < (lo : Int)) = false := decide_eq_false (by omega)
  have d1 : decide ((u : Int) < 0) = false := decide_eq_false (by omega)
  have d2 : decide (8 * (lb : Int) < (u : Int)) = false := decide_eq_false (by omega)
  have hw8 : IntKind.i64.wrap (8 * (lb : Int)) = 8 * (lb : Int) := by rw [IntKind.wrap_i64]; omega
  have HNN := Lib.hid hN
  have HNT := Lib.hid (fun W (hb : Below w.heap.size w W) => (hN.below hb).more hb.size)
  have HTB := Lib.hid (fun W (hb : Below w.heap.size w W) => hT.below hb)
  clear hfw hnd hd1 hd2 hd3 hbs hos hno hnb hl hlo hnl hb8 ho8 hn8 htv hdw hdn hnx hls hd hcn hck hne hnk hk ha hxr hin hf hN hT
  obtain ⟨n, l⟩ := N
  have q0 := (Bag.zero w).new #[.int .i64 n, .slice A l.length c] 24 w.heap.size 2 rfl rfl
  have h0 : (k = 0 ∧ u = 0) ∨ (0 < k ∧ 0 < u) := by
    rcases Nat.eq_zero_or_pos k with h | h
    · subst h; exact .inl ⟨rfl, by omega⟩
    · exact .inr ⟨h, by omega⟩
  obtain ⟨i0, hi, hz0, hz1, hz2⟩ := info_parts info_u8'
  rcases h0 with ⟨rfl, rfl⟩ | ⟨hk0, hu0⟩
  · clear hq hku
    have d3 : decide (8 * (lb : Int) < 0) = false := decide_eq_false (by omega)
    go_enter Tryd.func3, Tryd.ntmps3
    go_wp2_with fail
    refine (HFW.out _ (HNT.out _ q0.bl)).mono ?_
    rintro e w1 ⟨rfl, hb1⟩
    have q1 := q0.below hb1
    have m1 := q1.is0 0 (by decide) (.int .i64 n) rfl
    have m2 := q1.is0 1 (by decide) (.slice A l.length c) rfl
    clear hb1
    go_wp2_with fail
    refine (HD1.out _ (HNT.out _ q1.bl) (HTB.out _ q1.bl) ((HBS.out.below q1.bl).more q1.bl.size)).mono ?_
    rintro e w2 ⟨rfl, hb2⟩
    have q2 := q1.below hb2
    have q3 := q2.new #[.int .u64 (Cs.lo a : Int), .int .u64 (Cs.hi a : Int)] 30 w2.heap.size 2 rfl rfl
    have m3 := q2.is0 0 (by decide) (.int .i64 n) rfl
    have m4 := q2.is0 1 (by decide) (.slice A l.length c) rfl
    have m5 := q2.lt0
    clear hb2 m1 m2
    go_wp2_with fail
    refine (HND.out _ (HNT.out _ q3.bl) (HTB.out _ q3.bl)).mono ?_
    rintro e w4 ⟨rfl, hb4⟩
    have q4 := q3.below hb4
    clear hb4 m3 m4 m5 q0 q1 q2 q3
    go_upto_region 11 with (fail)
    rcases Ab with _ | aB
    · obtain rfl := HNB.out rfl
      obtain rfl : lb = 0 := by omega
      rcases Ao with _ | aO
      · obtain ⟨rfl, rfl⟩ := HNO.out rfl
        have hnx : nextB bs 0 other = bs.take 0 ++ other := by unfold nextB; rw [if_pos (by omega)]
        have HNX := Lib.hid hnx
        clear hnx
        obtain rfl := HLL.out
        clear HLL
        go_wp2_with (first
          | (at_builtin
             refine wpList_append_own_none rfl (.tmp 95) (.tmp 100) 25 rfl w4.heap.size 5 i0 1 Tryd.underlying25 hi _ _ _ rfl (World.ownsRow_made (base := w4.heap.size) (e := 5) (size := 1) w4 #[] 0 (Nat.le_refl _) (Nat.zero_le _) rfl) rfl ?_
             have ho1 := World.ownsRow_made (base := w4.heap.size) (e := 5) (size := 1) w4 #[] 0 (Nat.le_refl _) (Nat.zero_le _) rfl
             have hB1 : Below w4.heap.size w4 (w4.alloc (.cells #[] 5)) := (Below.refl _ _).alloc (Nat.le_refl _) _
             generalize w4.alloc (.cells #[] 5) = w5 at ho1 hB1 ⊢)
          | (at_builtin
             have q5 := q4.below hB1
             have m1 := q5.is (w.heap.size) 2 24 #[.int .i64 n, .slice A l.length c] (by simp) 0 (by decide) (.int .i64 n) rfl
             have m2 := q5.is (w.heap.size) 2 24 #[.int .i64 n, .slice A l.length c] (by simp) 1 (by decide) (.slice A l.length c) rfl
             refine wpList_append_own_none rfl (.tmp 119) (.tmp 120) 25 rfl w4.heap.size 5 i0 1 Tryd.underlying25 hi _ _ _ rfl (ho1) rfl ?_))
        obtain ⟨A', c', hv, hrd⟩ := own_rd (f := byF (nextB bs 0 other)) ho1 (fun i hi => by
          omega)
        cases hv
        refine (HD2.out _ _ _ (HNT.out _ q5.bl) (HTB.out _ q5.bl) hrd).mono ?_
        rintro e w8 ⟨rfl, hb8⟩
        have q6 := q5.below hb8
        have m3 := q6.is0 0 (by decide) (.int .u64 (Cs.lo a : Int)) rfl
        have m4 := q6.is0 1 (by decide) (.int .u64 (Cs.hi a : Int)) rfl
        have m5 := q6.lt0
        have q7 := q6.new #[.int .u64 (Cs.lo a : Int), .int .u64 (Cs.hi a : Int)] 30 w8.heap.size 2 rfl rfl
        have m6 := q7.is0 0 (by decide) (.int .u64 (Cs.lo a : Int)) rfl
        have m7 := q7.is0 1 (by decide) (.int .u64 (Cs.hi a : Int)) rfl
        clear m1 m2 hb8 q5 hrd
        go_wp2_with fail
        refine (works_any _ (HTB.out _ q7.bl)).mono ?_
        rintro e w9 ⟨rfl, hb9⟩
        have hb := Cs.Below.trans' q7.bl hb9 q7.bl.size
        go_wp2_with fail
        go_ret
        exact ⟨rfl, hb⟩
      · have hnx : nextB bs 0 other = bs.take 0 ++ other := by unfold nextB; rw [if_pos (by omega)]
        have HNX := Lib.hid hnx
        clear hnx
        obtain rfl := HLL.out
        clear HLL
        go_wp2_with (first
          | (at_builtin
             refine wpList_append_own_none rfl (.tmp 95) (.tmp 100) 25 rfl w4.heap.size 5 i0 1 Tryd.underlying25 hi _ _ _ rfl (World.ownsRow_made (base := w4.heap.size) (e := 5) (size := 1) w4 #[] 0 (Nat.le_refl _) (Nat.zero_le _) rfl) rfl ?_
             have ho1 := World.ownsRow_made (base := w4.heap.size) (e := 5) (size := 1) w4 #[] 0 (Nat.le_refl _) (Nat.zero_le _) rfl
             have hB1 : Below w4.heap.size w4 (w4.alloc (.cells #[] 5)) := (Below.refl _ _).alloc (Nat.le_refl _) _
             generalize w4.alloc (.cells #[] 5) = w5 at ho1 hB1 ⊢)
          | (at_builtin
             refine wpList_append_own _ rfl (.tmp 119) (.tmp 120) 25 rfl w4.heap.size 5 i0 (.int .u8 0) 1 1 Tryd.underlying25 hi hz0 hz1 hz2 rfl (by decide) _ _ _ rfl (ho1) aO lo co (byV (other.take lo)) rfl ?qb1 ?qb2 (byV_one _) ?qb4 ?qb5 ?qb6 ?_
             case qb1 => rw [byV_len, List.length_take, HLO.out]; omega
             case qb2 => exact by_news (m := lo) ((HOS.out.below q4.bl).below (hB1.mono q4.bl.size)) (by omega) HLO.out
             case qb4 => unfold maxLen; omega
             case qb5 => omega
             case qb6 => exact hB1.size
             intro v2 w7 ho3 hg3 _
             have hB3 := belowGrownV ho1 hB1 hB1.size hg3
             rw [show other.take lo = other from List.take_of_length_le (by rw [HLO.out]; omega)] at ho3
             have q5 := q4.below hB3
             have m1 := q5.is (w.heap.size) 2 24 #[.int .i64 n, .slice A l.length c] (by simp) 0 (by decide) (.int .i64 n) rfl
             have m2 := q5.is (w.heap.size) 2 24 #[.int .i64 n, .slice A l.length c] (by simp) 1 (by decide) (.slice A l.length c) rfl))
        rw [List.nil_append] at ho3
        obtain ⟨A', c', hv, hrd⟩ := own_rd (f := byF (nextB bs 0 other)) ho3 (fun i hi => by
          rw [HNX.out, List.take_zero, List.nil_append]
          exact byV_get _ i (by rw [HLO.out]; omega))
        cases hv
        refine (HD2.out _ _ _ (HNT.out _ q5.bl) (HTB.out _ q5.bl) hrd).mono ?_
        rintro e w8 ⟨rfl, hb8⟩
        have q6 := q5.below hb8
        have m3 := q6.is0 0 (by decide) (.int .u64 (Cs.lo a : Int)) rfl
        have m4 := q6.is0 1 (by decide) (.int .u64 (Cs.hi a : Int)) rfl
        have m5 := q6.lt0
        have q7 := q6.new #[.int .u64 (Cs.lo a : Int), .int .u64 (Cs.hi a : Int)] 30 w8.heap.size 2 rfl rfl
        have m6 := q7.is0 0 (by decide) (.int .u64 (Cs.lo a : Int)) rfl
        have m7 := q7.is0 1 (by decide) (.int .u64 (Cs.hi a : Int)) rfl
        clear m1 m2 hb8 q5 hrd
        go_wp2_with fail
        refine (works_any _ (HTB.out _ q7.bl)).mono ?_
        rintro e w9 ⟨rfl, hb9⟩
        have hb := Cs.Below.trans' q7.bl hb9 q7.bl.size
        go_wp2_with fail
        go_ret
        exact ⟨rfl, hb⟩
    · rcases Ao with _ | aO
      · obtain ⟨rfl, rfl⟩ := HNO.out rfl
        have hnx : nextB bs 0 other = bs.take 0 ++ other := by unfold nextB; rw [if_pos (by omega)]
        have HNX := Lib.hid hnx
        clear hnx
        obtain rfl := HLL.out
        clear HLL
        go_wp2_with (first
          | (at_builtin
             refine wpList_append_own _ rfl (.tmp 95) (.tmp 100) 25 rfl w4.heap.size 5 i0 (.int .u8 0) 1 1 Tryd.underlying25 hi hz0 hz1 hz2 rfl (by decide) _ _ _ rfl (World.ownsRow_made w4 #[] 0 (Nat.le_refl _) (Nat.zero_le _) rfl) aB 0 cb (byV (bs.take 0)) rfl ?qa1 ?qa2 (byV_one _) ?qa4 ?qa5 ?qa6 ?_
             case qa1 => simp [byV]
             case qa2 => exact by_news (m := 0) ((HBS.out.below q4.bl).below ((Below.refl _ _).alloc q4.bl.size _)) (by omega) HL.out
             case qa4 => unfold maxLen; omega
             case qa5 => omega
             case qa6 => simp
             intro v1 w5 ho1 hg1 _
             rw [Nat.zero_add, List.nil_append] at ho1
             have hB1 : Below w4.heap.size w4 w5 := belowGrown ((Below.refl w4.heap.size w4).alloc (Nat.le_refl _) _) hg1 (by simp) (Nat.le_refl _)
             clear hg1)
          | (at_builtin
             have q5 := q4.below hB1
             have m1 := q5.is (w.heap.size) 2 24 #[.int .i64 n, .slice A l.length c] (by simp) 0 (by decide) (.int .i64 n) rfl
             have m2 := q5.is (w.heap.size) 2 24 #[.int .i64 n, .slice A l.length c] (by simp) 1 (by decide) (.slice A l.length c) rfl
             refine wpList_append_own_none rfl (.tmp 119) (.tmp 120) 25 rfl w4.heap.size 5 i0 1 Tryd.underlying25 hi _ _ _ rfl (ho1) rfl ?_))
        obtain ⟨A', c', hv, hrd⟩ := own_rd (f := byF (nextB bs 0 other)) ho1 (fun i hi => by
          omega)
        cases hv
        refine (HD2.out _ _ _ (HNT.out _ q5.bl) (HTB.out _ q5.bl) hrd).mono ?_
        rintro e w8 ⟨rfl, hb8⟩
        have q6 := q5.below hb8
        have m3 := q6.is0 0 (by decide) (.int .u64 (Cs.lo a : Int)) rfl
        have m4 := q6.is0 1 (by decide) (.int .u64 (Cs.hi a : Int)) rfl
        have m5 := q6.lt0
        have q7 := q6.new #[.int .u64 (Cs.lo a : Int), .int .u64 (Cs.hi a : Int)] 30 w8.heap.size 2 rfl rfl
        have m6 := q7.is0 0 (by decide) (.int .u64 (Cs.lo a : Int)) rfl
        have m7 := q7.is0 1 (by decide) (.int .u64 (Cs.hi a : Int)) rfl
        clear m1 m2 hb8 q5 hrd
        go_wp2_with fail
        refine (works_any _ (HTB.out _ q7.bl)).mono ?_
        rintro e w9 ⟨rfl, hb9⟩
        have hb := Cs.Below.trans' q7.bl hb9 q7.bl.size
        go_wp2_with fail
        go_ret
        exact ⟨rfl, hb⟩
      · have hnx : nextB bs 0 other = bs.take 0 ++ other := by unfold nextB; rw [if_pos (by omega)]
        have HNX := Lib.hid hnx
        clear hnx
        obtain rfl := HLL.out
        clear HLL
        go_wp2_with (first
          | (at_builtin
             refine wpList_append_own _ rfl (.tmp 95) (.tmp 100) 25 rfl w4.heap.size 5 i0 (.int .u8 0) 1 1 Tryd.underlying25 hi hz0 hz1 hz2 rfl (by decide) _ _ _ rfl (World.ownsRow_made w4 #[] 0 (Nat.le_refl _) (Nat.zero_le _) rfl) aB 0 cb (byV (bs.take 0)) rfl ?qa1 ?qa2 (byV_one _) ?qa4 ?qa5 ?qa6 ?_
             case qa1 => simp [byV]
             case qa2 => exact by_news (m := 0) ((HBS.out.below q4.bl).below ((Below.refl _ _).alloc q4.bl.size _)) (by omega) HL.out
             case qa4 => unfold maxLen; omega
             case qa5 => omega
             case qa6 => simp
             intro v1 w5 ho1 hg1 _
             rw [Nat.zero_add, List.nil_append] at ho1
             have hB1 : Below w4.heap.size w4 w5 := belowGrown ((Below.refl w4.heap.size w4).alloc (Nat.le_refl _) _) hg1 (by simp) (Nat.le_refl _)
             clear hg1)
          | (at_builtin
             refine wpList_append_own _ rfl (.tmp 119) (.tmp 120) 25 rfl w4.heap.size 5 i0 (.int .u8 0) 1 1 Tryd.underlying25 hi hz0 hz1 hz2 rfl (by decide) _ _ _ rfl (ho1) aO lo co (byV (other.take lo)) rfl ?qb1 ?qb2 (byV_one _) ?qb4 ?qb5 ?qb6 ?_
             case qb1 => rw [byV_len, List.length_take, HLO.out]; omega
             case qb2 => exact by_news (m := lo) ((HOS.out.below q4.bl).below (hB1.mono q4.bl.size)) (by omega) HLO.out
             case qb4 => unfold maxLen; omega
             case qb5 => omega
             case qb6 => exact hB1.size
             intro v2 w7 ho3 hg3 _
             have hB3 := belowGrownV ho1 hB1 hB1.size hg3
             rw [show other.take lo = other from List.take_of_length_le (by rw [HLO.out]; omega)] at ho3
             have q5 := q4.below hB3
             have m1 := q5.is (w.heap.size) 2 24 #[.int .i64 n, .slice A l.length c] (by simp) 0 (by decide) (.int .i64 n) rfl
             have m2 := q5.is (w.heap.size) 2 24 #[.int .i64 n, .slice A l.length c] (by simp) 1 (by decide) (.slice A l.length c) rfl))
        rw [byV_append, ← HNX.out] at ho3
        obtain ⟨A', c', hv, hrd⟩ := own_rd (f := byF (nextB bs 0 other)) ho3 (fun i hi => byV_get _ i (by rw [HNL.out]; omega))
        cases hv
        refine (HD2.out _ _ _ (HNT.out _ q5.bl) (HTB.out _ q5.bl) hrd).mono ?_
        rintro e w8 ⟨rfl, hb8⟩
        have q6 := q5.below hb8
        have m3 := q6.is0 0 (by decide) (.int .u64 (Cs.lo a : Int)) rfl
        have m4 := q6.is0 1 (by decide) (.int .u64 (Cs.hi a : Int)) rfl
        have m5 := q6.lt0
        have q7 := q6.new #[.int .u64 (Cs.lo a : Int), .int .u64 (Cs.hi a : Int)] 30 w8.heap.size 2 rfl rfl
        have m6 := q7.is0 0 (by decide) (.int .u64 (Cs.lo a : Int)) rfl
        have m7 := q7.is0 1 (by decide) (.int .u64 (Cs.hi a : Int)) rfl
        clear m1 m2 hb8 q5 hrd
        go_wp2_with fail
        refine (works_any _ (HTB.out _ q7.bl)).mono ?_
        rintro e w9 ⟨rfl, hb9⟩
        have hb := Cs.Below.trans' q7.bl hb9 q7.bl.size
        go_wp2_with fail
        go_ret
        exact ⟨rfl, hb⟩
  · have k1 : ((k : Int) == 0) = false := by simp; omega
    have k2 : decide ((0 : Int) < (k : Int)) = true := decide_eq_true (by omega)
    have k3 : (u : Int) % (k : Int) = 0 := by
      have : u % k = 0 := by rw [hq, Nat.mul_mod_left]
      omega
    clear hq hku
    go_enter Tryd.func3, Tryd.ntmps3
    go_wp2_with fail
    refine (HFW.out _ (HNT.out _ q0.bl)).mono ?_
    rintro e w1 ⟨rfl, hb1⟩
    have q1 := q0.below hb1
    have m1 := q1.is0 0 (by decide) (.int .i64 n) rfl
    have m2 := q1.is0 1 (by decide) (.slice A l.length c) rfl
    clear hb1
    go_wp2_with fail
    refine (HD1.out _ (HNT.out _ q1.bl) (HTB.out _ q1.bl) ((HBS.out.below q1.bl).more q1.bl.size)).mono ?_
    rintro e w2 ⟨rfl, hb2⟩
    have q2 := q1.below hb2
    have q3 := q2.new #[.int .u64 (Cs.lo a : Int), .int .u64 (Cs.hi a : Int)] 30 w2.heap.size 2 rfl rfl
    have m3 := q2.is0 0 (by decide) (.int .i64 n) rfl
    have m4 := q2.is0 1 (by decide) (.slice A l.length c) rfl
    have m5 := q2.lt0
    clear hb2 m1 m2
    go_wp2_with fail
    refine (HND.out _ (HNT.out _ q3.bl) (HTB.out _ q3.bl)).mono ?_
    rintro e w4 ⟨rfl, hb4⟩
    have q4 := q3.below hb4
    clear hb4 m3 m4 m5 q0 q1 q2 q3
    go_upto_region 11 with (fail)
    obtain ⟨aB, hAB⟩ : ∃ aB, Ab = some aB := by
      obtain ⟨b, o, e, _⟩ := HBS.out (by omega)
      exact ⟨_, e⟩
    subst hAB
    rcases Ao with _ | aO
    · obtain ⟨rfl, rfl⟩ := HNO.out rfl
      rcases Nat.eq_zero_or_pos (u % 8) with hu8' | hu8'
      · have hr0 : decide ((0 : Int) < (u : Int) % 8) = false := decide_eq_false (by omega)
        have hnx : nextB bs u other = bs.take ((u + 7) / 8) ++ other := by unfold nextB; rw [if_pos (by omega)]
        have HNX := Lib.hid hnx
        clear hnx
        obtain rfl := HLL.out
        clear HLL
        go_wp2_with (first
          | (at_builtin
             refine wpList_append_own _ rfl (.tmp 95) (.tmp 100) 25 rfl w4.heap.size 5 i0 (.int .u8 0) 1 1 Tryd.underlying25 hi hz0 hz1 hz2 rfl (by decide) _ _ _ rfl (World.ownsRow_made w4 #[] 0 (Nat.le_refl _) (Nat.zero_le _) rfl) aB ((u + 7) / 8) cb (byV (bs.take ((u + 7) / 8))) rfl ?qa1 ?qa2 (byV_one _) ?qa4 ?qa5 ?qa6 ?_
             case qa1 => rw [byV_len, List.length_take, HL.out]; omega
             case qa2 => exact by_news (m := ((u + 7) / 8)) ((HBS.out.below q4.bl).below ((Below.refl _ _).alloc q4.bl.size _)) (by omega) HL.out
             case qa4 => unfold maxLen; omega
             case qa5 => omega
             case qa6 => simp
             intro v1 w5 ho1 hg1 _
             rw [Nat.zero_add, List.nil_append] at ho1
             have hB1 : Below w4.heap.size w4 w5 := belowGrown ((Below.refl w4.heap.size w4).alloc (Nat.le_refl _) _) hg1 (by simp) (Nat.le_refl _)
             clear hg1
             obtain ⟨g, cap, rfl, hgb, hgl⟩ := ownsForm ho1 (by omega))
          | (at_builtin
             have q5 := q4.below hB1
             have m1 := q5.is (w.heap.size) 2 24 #[.int .i64 n, .slice A l.length c] (by simp) 0 (by decide) (.int .i64 n) rfl
             have m2 := q5.is (w.heap.size) 2 24 #[.int .i64 n, .slice A l.length c] (by simp) 1 (by decide) (.slice A l.length c) rfl
             refine wpList_append_own_none rfl (.tmp 119) (.tmp 120) 25 rfl w4.heap.size 5 i0 1 Tryd.underlying25 hi _ _ _ rfl (ho1) rfl ?_))
        obtain ⟨A', c', hv, hrd⟩ := own_rd (f := byF (nextB bs u other)) ho1 (fun i hi => by
          have ho0 : other = [] := List.eq_nil_of_length_eq_zero HLO.out
          rw [HNX.out, ho0, List.append_nil]
          exact byV_get _ i (by simp [HL.out]; omega))
        cases hv
        refine (HD2.out _ _ _ (HNT.out _ q5.bl) (HTB.out _ q5.bl) hrd).mono ?_
        rintro e w8 ⟨rfl, hb8⟩
        have q6 := q5.below hb8
        have m3 := q6.is0 0 (by decide) (.int .u64 (Cs.lo a : Int)) rfl
        have m4 := q6.is0 1 (by decide) (.int .u64 (Cs.hi a : Int)) rfl
        have m5 := q6.lt0
        have q7 := q6.new #[.int .u64 (Cs.lo a : Int), .int .u64 (Cs.hi a : Int)] 30 w8.heap.size 2 rfl rfl
        have m6 := q7.is0 0 (by decide) (.int .u64 (Cs.lo a : Int)) rfl
        have m7 := q7.is0 1 (by decide) (.int .u64 (Cs.hi a : Int)) rfl
        clear m1 m2 hb8 q5 hrd
        have k4 : decide ((0 : Int) < (u : Int)) = true := decide_eq_true (by omega)
        go_upto_region 19 with (fail)
        clear q6 m3 m4 m5 m6 m7
        obtain ⟨v1, hv1⟩ : ∃ v1 : Nat, u - 1 = v1 := ⟨_, rfl⟩
        obtain ⟨m2, hm2⟩ : ∃ m2 : Nat, (u - 1) / 8 = m2 := ⟨_, rfl⟩
        have hd3 := HD3.out hu0
        rw [hm2] at hd3
        have HD4 := Lib.hid hd3
        have hy1 : (0 : Int) ≤ (m2 : Int) := by omega
        have hy2 : (m2 : Int) ≤ (cb : Int) := by omega
        have hy3 : m2 ≤ cb := by omega
        have hz1 : IntKind.i64.wrap ((u : Int) - 1) = (v1 : Int) := by rw [IntKind.wrap_i64]; omega
        have hz2 : (v1 : Int).tdiv 8 = (m2 : Int) := by rw [Int.tdiv_eq_ediv_of_nonneg (by omega)]; omega
        have hz3 : (v1 : Int) / 8 = (m2 : Int) := by omega
        have hz4 : IntKind.i64.wrap (m2 : Int) = (m2 : Int) := by rw [IntKind.wrap_i64]; omega
        clear hd3 hm2 hv1
        generalize w8.alloc (.cells #[.int .u64 (Cs.lo a : Int), .int .u64 (Cs.hi a : Int)] 30) = W9 at q7 ⊢
        go_cut [18, 19, 20, 21] from 144 to 155 (fun p y x z wx => ∃ X, p = .pointer (some ⟨X, 0, none⟩) ∧ y = .int .i64 0 ∧ x = .bool false ∧ z = .int .i64 0 ∧ Bag w w w.heap.size ((X, 30, 2, #[.int .u64 0, .int .u64 0]) :: [(w8.heap.size, 30, 2, #[.int .u64 (Cs.lo a : Int), .int .u64 (Cs.hi a : Int)]), (w2.heap.size, 30, 2, #[.int .u64 (Cs.lo a : Int), .int .u64 (Cs.hi a : Int)]), (w.heap.size, 24, 2, #[.int .i64 n, .slice A l.length c])]) wx)
        case first =>
          have q6 := q7.drew
          have hz := (q7.new #[.int .u64 0, .int .u64 0] 30 _ 2 rfl rfl).row0.drew
          have hX0 := q7.fresh
          have m1 := q6.is (w.heap.size) 2 24 #[.int .i64 n, .slice A l.length c] (by simp) 0 (by decide) (.int .i64 n) rfl
          have m2 := q6.is (w.heap.size) 2 24 #[.int .i64 n, .slice A l.length c] (by simp) 1 (by decide) (.slice A l.length c) rfl
          go_region_held3 (fun w' => w'.cell? ⟨w.heap.size, 0, none⟩ = some (.int .i64 n) ∧ w'.cell? ⟨w.heap.size, 1, none⟩ = some (.slice A l.length c))
            (first | exact ⟨m1, m2⟩ | exact ⟨putFar N1.out m1, putFar N2.out m2⟩ | exact ⟨(q7.alloc _).drew.is (w.heap.size) 2 24 #[.int .i64 n, .slice A l.length c] (by simp) 0 (by decide) (.int .i64 n) rfl, (q7.alloc _).drew.is (w.heap.size) 2 24 #[.int .i64 n, .slice A l.length c] (by simp) 1 (by decide) (.slice A l.length c) rfl⟩ | exact ⟨(q6.alloc _).is (w.heap.size) 2 24 #[.int .i64 n, .slice A l.length c] (by simp) 0 (by decide) (.int .i64 n) rfl, (q6.alloc _).is (w.heap.size) 2 24 #[.int .i64 n, .slice A l.length c] (by simp) 1 (by decide) (.slice A l.length c) rfl⟩ | go_keep)
            (first
              | (go_simp
                 go_at_call 6
                 (with_reducible first | refine (HD4.out _ (HNT.out _ q6.bl) (HTB.out _ q6.bl) ((HBS.out.below q6.bl).more q6.bl.size)).mono ?_ | refine (HD4.out _ (HNT.out _ (q7.alloc _).drew.bl) (HTB.out _ (q7.alloc _).drew.bl) ((HBS.out.below (q7.alloc _).drew.bl).more (q7.alloc _).drew.bl.size)).mono ?_ | refine (HD4.out _ (HNT.out _ (q6.alloc _).bl) (HTB.out _ (q6.alloc _).bl) ((HBS.out.below (q6.alloc _).bl).more (q6.alloc _).bl.size)).mono ?_)
                 rintro e w9 ⟨rfl, hb9⟩
                 first
                   | (replace q6 := q6.below hb9
                      try replace hz6 := rowBelow hz6 hb9)
                   | (have hz6 := rowBelow hz hb9
                      have hX6 := hX0
                      have N1 := Lib.hid (Ne.symm (hX6.2 (w.heap.size, 24, 2, #[.int .i64 n, .slice A l.length c]) (by simp)))
                      have N2 := Lib.hid (Ne.symm (hX6.2 (w.heap.size, 24, 2, #[.int .i64 n, .slice A l.length c]) (by simp)))
                      replace q6 := (q7.alloc _).drew.below hb9)
                   | (have hX6 := q6.fresh
                      have N1 := Lib.hid (Ne.symm (hX6.2 (w.heap.size, 24, 2, #[.int .i64 n, .slice A l.length c]) (by simp)))
                      have N2 := Lib.hid (Ne.symm (hX6.2 (w.heap.size, 24, 2, #[.int .i64 n, .slice A l.length c]) (by simp)))
                      have hz6 := rowBelow (arrNew _ #[.int .u64 0, .int .u64 0] 30 _ 2 rfl rfl) hb9
                      replace q6 := (q6.alloc _).below hb9)
                 have m1 := q6.is (w.heap.size) 2 24 #[.int .i64 n, .slice A l.length c] (by simp) 0 (by decide) (.int .i64 n) rfl
                 have m2 := q6.is (w.heap.size) 2 24 #[.int .i64 n, .slice A l.length c] (by simp) 1 (by decide) (.slice A l.length c) rfl
                 try have y0 := hz6.frozen 0
                 try have z0 := hz6.cell (i := 0) (show 0 < 2 by decide)
                 try have y1 := hz6.frozen 1
                 try have z1 := hz6.cell (i := 1) (show 1 < 2 by decide)))
          all_goals
            try go_wp2
            go_meet
            case rel =>
              first
                | exact ⟨_, rfl, rfl, rfl, rfl, q6.new _ _ _ _ rfl rfl⟩
                | exact ⟨_, rfl, rfl, rfl, rfl, ((q6.other hX6.1 hX6.2 _ _).other hX6.1 hX6.2 _ _).cons (pairRow hz6 _ _)⟩
        case rest =>
          obtain ⟨gx, rfl, rfl, rfl, rfl, q8⟩ := hcut
          go_wp2_with fail
          refine (works_any _ (HTB.out _ q8.bl)).mono ?_
          rintro e w9 ⟨rfl, hb9⟩
          have hb := Cs.Below.trans' q8.bl hb9 q8.bl.size
          go_wp2_with fail
          go_ret
          exact ⟨rfl, hb⟩
      · have hr0 : decide ((0 : Int) < (u : Int) % 8) = true := decide_eq_true (by omega)
        have hi1 : (0 : Int) ≤ (u : Int) / 8 := by omega
        have hi2 : (u : Int) / 8 < (((u + 7) / 8 : Nat) : Int) := by omega
        have hi3 : u / 8 < (u + 7) / 8 := by omega
        have hr1 : (0 : Int) ≤ (u : Int) % 8 := by omega
        have hnx : nextB bs u other = (bs.take ((u + 7) / 8)).set (u / 8) (flip (bs.getD (u / 8) 0) (u % 8)) ++ other := by unfold nextB; rw [if_neg (by omega)]
        have HNX := Lib.hid hnx
        clear hnx
        obtain rfl := HLL.out
        clear HLL
        go_wp2_with (first
          | (at_builtin
             refine wpList_append_own _ rfl (.tmp 95) (.tmp 100) 25 rfl w4.heap.size 5 i0 (.int .u8 0) 1 1 Tryd.underlying25 hi hz0 hz1 hz2 rfl (by decide) _ _ _ rfl (World.ownsRow_made w4 #[] 0 (Nat.le_refl _) (Nat.zero_le _) rfl) aB ((u + 7) / 8) cb (byV (bs.take ((u + 7) / 8))) rfl ?qa1 ?qa2 (byV_one _) ?qa4 ?qa5 ?qa6 ?_
             case qa1 => rw [byV_len, List.length_take, HL.out]; omega
             case qa2 => exact by_news (m := ((u + 7) / 8)) ((HBS.out.below q4.bl).below ((Below.refl _ _).alloc q4.bl.size _)) (by omega) HL.out
             case qa4 => unfold maxLen; omega
             case qa5 => omega
             case qa6 => simp
             intro v1 w5 ho1 hg1 _
             rw [Nat.zero_add, List.nil_append] at ho1
             have hB1 : Below w4.heap.size w4 w5 := belowGrown ((Below.refl w4.heap.size w4).alloc (Nat.le_refl _) _) hg1 (by simp) (Nat.le_refl _)
             clear hg1
             obtain ⟨g, cap, rfl, hgb, hgl⟩ := ownsForm ho1 (by omega)
             have hcell := ownsCell ho1 (j := u / 8) (byV_get _ (u / 8) (by rw [List.length_take, HL.out]; omega))
             have hby : byF (bs.take ((u + 7) / 8)) (u / 8) = .int .u8 ((bs.getD (u / 8) 0 : Nat) : Int) := by
               unfold byF
               rw [List.getD_eq_getElem?_getD, List.getElem?_take_of_lt (by omega), ← List.getD_eq_getElem?_getD]
             rw [hby] at hcell
             have hfr := ho1.frozenAt (u / 8)
             have hx8 := HB8.out (u / 8)
             have hst := ho1.stored (u / 8) (.int .u8 ((flip (bs.getD (u / 8) 0) (u % 8) : Nat) : Int))
             rw [byV_set] at hst
             have hfl := flip_bits (bs.getD (u / 8) 0) (u % 8) hx8 (by omega)
             have hnx := HNX.out
             obtain ⟨x, hx⟩ : ∃ x, bs.getD (u / 8) 0 = x := ⟨_, rfl⟩
             rw [hx] at hcell hst hfl hnx
             have HNX2 := Lib.hid hnx
             have HST := Lib.hid hst
             clear hby hx hx8 hnx hst)
          | (at_builtin
             obtain ⟨ho2, hg2⟩ := HST.out
             have hB2 := belowGrown hB1 hg2 hB1.size hgb
             have q5 := q4.below hB2
             have m1 := q5.is (w.heap.size) 2 24 #[.int .i64 n, .slice A l.length c] (by simp) 0 (by decide) (.int .i64 n) rfl
             have m2 := q5.is (w.heap.size) 2 24 #[.int .i64 n, .slice A l.length c] (by simp) 1 (by decide) (.slice A l.length c) rfl
             refine wpList_append_own_none rfl (.tmp 119) (.tmp 120) 25 rfl w4.heap.size 5 i0 1 Tryd.underlying25 hi _ _ _ rfl (ho2) rfl ?_))
        obtain ⟨A', c', hv, hrd⟩ := own_rd (f := byF (nextB bs u other)) ho2 (fun i hi => by
          have ho0 : other = [] := List.eq_nil_of_length_eq_zero HLO.out
          rw [HNX2.out, ho0, List.append_nil]
          exact byV_get _ i (by simp [HL.out]; omega))
        cases hv
        refine (HD2.out _ _ _ (HNT.out _ q5.bl) (HTB.out _ q5.bl) hrd).mono ?_
        rintro e w8 ⟨rfl, hb8⟩
        have q6 := q5.below hb8
        have m3 := q6.is0 0 (by decide) (.int .u64 (Cs.lo a : Int)) rfl
        have m4 := q6.is0 1 (by decide) (.int .u64 (Cs.hi a : Int)) rfl
        have m5 := q6.lt0
        have q7 := q6.new #[.int .u64 (Cs.lo a : Int), .int .u64 (Cs.hi a : Int)] 30 w8.heap.size 2 rfl rfl
        have m6 := q7.is0 0 (by decide) (.int .u64 (Cs.lo a : Int)) rfl
        have m7 := q7.is0 1 (by decide) (.int .u64 (Cs.hi a : Int)) rfl
        clear m1 m2 hb8 q5 hrd
        have k4 : decide ((0 : Int) < (u : Int)) = true := decide_eq_true (by omega)
        go_upto_region 19 with (fail)
        clear q6 m3 m4 m5 m6 m7
        obtain ⟨v1, hv1⟩ : ∃ v1 : Nat, u - 1 = v1 := ⟨_, rfl⟩
        obtain ⟨m2, hm2⟩ : ∃ m2 : Nat, (u - 1) / 8 = m2 := ⟨_, rfl⟩
        have hd3 := HD3.out hu0
        rw [hm2] at hd3
        have HD4 := Lib.hid hd3
        have hy1 : (0 : Int) ≤ (m2 : Int) := by omega
        have hy2 : (m2 : Int) ≤ (cb : Int) := by omega
        have hy3 : m2 ≤ cb := by omega
        have hz1 : IntKind.i64.wrap ((u : Int) - 1) = (v1 : Int) := by rw [IntKind.wrap_i64]; omega
        have hz2 : (v1 : Int).tdiv 8 = (m2 : Int) := by rw [Int.tdiv_eq_ediv_of_nonneg (by omega)]; omega
        have hz3 : (v1 : Int) / 8 = (m2 : Int) := by omega
        have hz4 : IntKind.i64.wrap (m2 : Int) = (m2 : Int) := by rw [IntKind.wrap_i64]; omega
        clear hd3 hm2 hv1
        generalize w8.alloc (.cells #[.int .u64 (Cs.lo a : Int), .int .u64 (Cs.hi a : Int)] 30) = W9 at q7 ⊢
        go_cut [18, 19, 20, 21] from 144 to 155 (fun p y x z wx => ∃ X, p = .pointer (some ⟨X, 0, none⟩) ∧ y = .int .i64 0 ∧ x = .bool false ∧ z = .int .i64 0 ∧ Bag w w w.heap.size ((X, 30, 2, #[.int .u64 0, .int .u64 0]) :: [(w8.heap.size, 30, 2, #[.int .u64 (Cs.lo a : Int), .int .u64 (Cs.hi a : Int)]), (w2.heap.size, 30, 2, #[.int .u64 (Cs.lo a : Int), .int .u64 (Cs.hi a : Int)]), (w.heap.size, 24, 2, #[.int .i64 n, .slice A l.length c])]) wx)
        case first =>
          have q6 := q7.drew
          have hz := (q7.new #[.int .u64 0, .int .u64 0] 30 _ 2 rfl rfl).row0.drew
          have hX0 := q7.fresh
          have m1 := q6.is (w.heap.size) 2 24 #[.int .i64 n, .slice A l.length c] (by simp) 0 (by decide) (.int .i64 n) rfl
          have m2 := q6.is (w.heap.size) 2 24 #[.int .i64 n, .slice A l.length c] (by simp) 1 (by decide) (.slice A l.length c) rfl
          go_region_held3 (fun w' => w'.cell? ⟨w.heap.size, 0, none⟩ = some (.int .i64 n) ∧ w'.cell? ⟨w.heap.size, 1, none⟩ = some (.slice A l.length c))
            (first | exact ⟨m1, m2⟩ | exact ⟨putFar N1.out m1, putFar N2.out m2⟩ | exact ⟨(q7.alloc _).drew.is (w.heap.size) 2 24 #[.int .i64 n, .slice A l.length c] (by simp) 0 (by decide) (.int .i64 n) rfl, (q7.alloc _).drew.is (w.heap.size) 2 24 #[.int .i64 n, .slice A l.length c] (by simp) 1 (by decide) (.slice A l.length c) rfl⟩ | exact ⟨(q6.alloc _).is (w.heap.size) 2 24 #[.int .i64 n, .slice A l.length c] (by simp) 0 (by decide) (.int .i64 n) rfl, (q6.alloc _).is (w.heap.size) 2 24 #[.int .i64 n, .slice A l.length c] (by simp) 1 (by decide) (.slice A l.length c) rfl⟩ | go_keep)
            (first
              | (go_simp
                 go_at_call 6
                 (with_reducible first | refine (HD4.out _ (HNT.out _ q6.bl) (HTB.out _ q6.bl) ((HBS.out.below q6.bl).more q6.bl.size)).mono ?_ | refine (HD4.out _ (HNT.out _ (q7.alloc _).drew.bl) (HTB.out _ (q7.alloc _).drew.bl) ((HBS.out.below (q7.alloc _).drew.bl).more (q7.alloc _).drew.bl.size)).mono ?_ | refine (HD4.out _ (HNT.out _ (q6.alloc _).bl) (HTB.out _ (q6.alloc _).bl) ((HBS.out.below (q6.alloc _).bl).more (q6.alloc _).bl.size)).mono ?_)
                 rintro e w9 ⟨rfl, hb9⟩
                 first
                   | (replace q6 := q6.below hb9
                      try replace hz6 := rowBelow hz6 hb9)
                   | (have hz6 := rowBelow hz hb9
                      have hX6 := hX0
                      have N1 := Lib.hid (Ne.symm (hX6.2 (w.heap.size, 24, 2, #[.int .i64 n, .slice A l.length c]) (by simp)))
                      have N2 := Lib.hid (Ne.symm (hX6.2 (w.heap.size, 24, 2, #[.int .i64 n, .slice A l.length c]) (by simp)))
                      replace q6 := (q7.alloc _).drew.below hb9)
                   | (have hX6 := q6.fresh
                      have N1 := Lib.hid (Ne.symm (hX6.2 (w.heap.size, 24, 2, #[.int .i64 n, .slice A l.length c]) (by simp)))
                      have N2 := Lib.hid (Ne.symm (hX6.2 (w.heap.size, 24, 2, #[.int .i64 n, .slice A l.length c]) (by simp)))
                      have hz6 := rowBelow (arrNew _ #[.int .u64 0, .int .u64 0] 30 _ 2 rfl rfl) hb9
                      replace q6 := (q6.alloc _).below hb9)
                 have m1 := q6.is (w.heap.size) 2 24 #[.int .i64 n, .slice A l.length c] (by simp) 0 (by decide) (.int .i64 n) rfl
                 have m2 := q6.is (w.heap.size) 2 24 #[.int .i64 n, .slice A l.length c] (by simp) 1 (by decide) (.slice A l.length c) rfl
                 try have y0 := hz6.frozen 0
                 try have z0 := hz6.cell (i := 0) (show 0 < 2 by decide)
                 try have y1 := hz6.frozen 1
                 try have z1 := hz6.cell (i := 1) (show 1 < 2 by decide)))
          all_goals
            try go_wp2
            go_meet
            case rel =>
              first
                | exact ⟨_, rfl, rfl, rfl, rfl, q6.new _ _ _ _ rfl rfl⟩
                | exact ⟨_, rfl, rfl, rfl, rfl, ((q6.other hX6.1 hX6.2 _ _).other hX6.1 hX6.2 _ _).cons (pairRow hz6 _ _)⟩
        case rest =>
          obtain ⟨gx, rfl, rfl, rfl, rfl, q8⟩ := hcut
          go_wp2_with fail
          refine (works_any _ (HTB.out _ q8.bl)).mono ?_
          rintro e w9 ⟨rfl, hb9⟩
          have hb := Cs.Below.trans' q8.bl hb9 q8.bl.size
          go_wp2_with fail
          go_ret
          exact ⟨rfl, hb⟩
    · rcases Nat.eq_zero_or_pos (u % 8) with hu8' | hu8'
      · have hr0 : decide ((0 : Int) < (u : Int) % 8) = false := decide_eq_false (by omega)
        have hnx : nextB bs u other = bs.take ((u + 7) / 8) ++ other := by unfold nextB; rw [if_pos (by omega)]
        have HNX := Lib.hid hnx
        clear hnx
        obtain rfl := HLL.out
        clear HLL
        go_wp2_with (first
          | (at_builtin
             refine wpList_append_own _ rfl (.tmp 95) (.tmp 100) 25 rfl w4.heap.size 5 i0 (.int .u8 0) 1 1 Tryd.underlying25 hi hz0 hz1 hz2 rfl (by decide) _ _ _ rfl (World.ownsRow_made w4 #[] 0 (Nat.le_refl _) (Nat.zero_le _) rfl) aB ((u + 7) / 8) cb (byV (bs.take ((u + 7) / 8))) rfl ?qa1 ?qa2 (byV_one _) ?qa4 ?qa5 ?qa6 ?_
             case qa1 => rw [byV_len, List.length_take, HL.out]; omega
             case qa2 => exact by_news (m := ((u + 7) / 8)) ((HBS.out.below q4.bl).below ((Below.refl _ _).alloc q4.bl.size _)) (by omega) HL.out
             case qa4 => unfold maxLen; omega
             case qa5 => omega
             case qa6 => simp
             intro v1 w5 ho1 hg1 _
             rw [Nat.zero_add, List.nil_append] at ho1
             have hB1 : Below w4.heap.size w4 w5 := belowGrown ((Below.refl w4.heap.size w4).alloc (Nat.le_refl _) _) hg1 (by simp) (Nat.le_refl _)
             clear hg1
             obtain ⟨g, cap, rfl, hgb, hgl⟩ := ownsForm ho1 (by omega))
          | (at_builtin
             refine wpList_append_own _ rfl (.tmp 119) (.tmp 120) 25 rfl w4.heap.size 5 i0 (.int .u8 0) 1 1 Tryd.underlying25 hi hz0 hz1 hz2 rfl (by decide) _ _ _ rfl (ho1) aO lo co (byV (other.take lo)) rfl ?qb1 ?qb2 (byV_one _) ?qb4 ?qb5 ?qb6 ?_
             case qb1 => rw [byV_len, List.length_take, HLO.out]; omega
             case qb2 => exact by_news (m := lo) ((HOS.out.below q4.bl).below (hB1.mono q4.bl.size)) (by omega) HLO.out
             case qb4 => unfold maxLen; omega
             case qb5 => omega
             case qb6 => exact hB1.size
             intro v2 w7 ho3 hg3 _
             have hB3 := belowGrownV ho1 hB1 hB1.size hg3
             rw [show other.take lo = other from List.take_of_length_le (by rw [HLO.out]; omega)] at ho3
             have q5 := q4.below hB3
             have m1 := q5.is (w.heap.size) 2 24 #[.int .i64 n, .slice A l.length c] (by simp) 0 (by decide) (.int .i64 n) rfl
             have m2 := q5.is (w.heap.size) 2 24 #[.int .i64 n, .slice A l.length c] (by simp) 1 (by decide) (.slice A l.length c) rfl))
        rw [byV_append, ← HNX.out] at ho3
        obtain ⟨A', c', hv, hrd⟩ := own_rd (f := byF (nextB bs u other)) ho3 (fun i hi => byV_get _ i (by rw [HNL.out]; omega))
        cases hv
        refine (HD2.out _ _ _ (HNT.out _ q5.bl) (HTB.out _ q5.bl) hrd).mono ?_
        rintro e w8 ⟨rfl, hb8⟩
        have q6 := q5.below hb8
        have m3 := q6.is0 0 (by decide) (.int .u64 (Cs.lo a : Int)) rfl
        have m4 := q6.is0 1 (by decide) (.int .u64 (Cs.hi a : Int)) rfl
        have m5 := q6.lt0
        have q7 := q6.new #[.int .u64 (Cs.lo a : Int), .int .u64 (Cs.hi a : Int)] 30 w8.heap.size 2 rfl rfl
        have m6 := q7.is0 0 (by decide) (.int .u64 (Cs.lo a : Int)) rfl
        have m7 := q7.is0 1 (by decide) (.int .u64 (Cs.hi a : Int)) rfl
        clear m1 m2 hb8 q5 hrd
        have k4 : decide ((0 : Int) < (u : Int)) = true := decide_eq_true (by omega)
        go_upto_region 19 with (fail)
        clear q6 m3 m4 m5 m6 m7
        obtain ⟨v1, hv1⟩ : ∃ v1 : Nat, u - 1 = v1 := ⟨_, rfl⟩
        obtain ⟨m2, hm2⟩ : ∃ m2 : Nat, (u - 1) / 8 = m2 := ⟨_, rfl⟩
        have hd3 := HD3.out hu0
        rw [hm2] at hd3
        have HD4 := Lib.hid hd3
        have hy1 : (0 : Int) ≤ (m2 : Int) := by omega
        have hy2 : (m2 : Int) ≤ (cb : Int) := by omega
        have hy3 : m2 ≤ cb := by omega
        have hz1 : IntKind.i64.wrap ((u : Int) - 1) = (v1 : Int) := by rw [IntKind.wrap_i64]; omega
        have hz2 : (v1 : Int).tdiv 8 = (m2 : Int) := by rw [Int.tdiv_eq_ediv_of_nonneg (by omega)]; omega
        have hz3 : (v1 : Int) / 8 = (m2 : Int) := by omega
        have hz4 : IntKind.i64.wrap (m2 : Int) = (m2 : Int) := by rw [IntKind.wrap_i64]; omega
        clear hd3 hm2 hv1
        generalize w8.alloc (.cells #[.int .u64 (Cs.lo a : Int), .int .u64 (Cs.hi a : Int)] 30) = W9 at q7 ⊢
        go_cut [18, 19, 20, 21] from 144 to 155 (fun p y x z wx => ∃ X, p = .pointer (some ⟨X, 0, none⟩) ∧ y = .int .i64 0 ∧ x = .bool false ∧ z = .int .i64 0 ∧ Bag w w w.heap.size ((X, 30, 2, #[.int .u64 0, .int .u64 0]) :: [(w8.heap.size, 30, 2, #[.int .u64 (Cs.lo a : Int), .int .u64 (Cs.hi a : Int)]), (w2.heap.size, 30, 2, #[.int .u64 (Cs.lo a : Int), .int .u64 (Cs.hi a : Int)]), (w.heap.size, 24, 2, #[.int .i64 n, .slice A l.length c])]) wx)
        case first =>
          have q6 := q7.drew
          have hz := (q7.new #[.int .u64 0, .int .u64 0] 30 _ 2 rfl rfl).row0.drew
          have hX0 := q7.fresh
          have m1 := q6.is (w.heap.size) 2 24 #[.int .i64 n, .slice A l.length c] (by simp) 0 (by decide) (.int .i64 n) rfl
          have m2 := q6.is (w.heap.size) 2 24 #[.int .i64 n, .slice A l.length c] (by simp) 1 (by decide) (.slice A l.length c) rfl
          go_region_held3 (fun w' => w'.cell? ⟨w.heap.size, 0, none⟩ = some (.int .i64 n) ∧ w'.cell? ⟨w.heap.size, 1, none⟩ = some (.slice A l.length c))
            (first | exact ⟨m1, m2⟩ | exact ⟨putFar N1.out m1, putFar N2.out m2⟩ | exact ⟨(q7.alloc _).drew.is (w.heap.size) 2 24 #[.int .i64 n, .slice A l.length c] (by simp) 0 (by decide) (.int .i64 n) rfl, (q7.alloc _).drew.is (w.heap.size) 2 24 #[.int .i64 n, .slice A l.length c] (by simp) 1 (by decide) (.slice A l.length c) rfl⟩ | exact ⟨(q6.alloc _).is (w.heap.size) 2 24 #[.int .i64 n, .slice A l.length c] (by simp) 0 (by decide) (.int .i64 n) rfl, (q6.alloc _).is (w.heap.size) 2 24 #[.int .i64 n, .slice A l.length c] (by simp) 1 (by decide) (.slice A l.length c) rfl⟩ | go_keep)
            (first
              | (go_simp
                 go_at_call 6
                 (with_reducible first | refine (HD4.out _ (HNT.out _ q6.bl) (HTB.out _ q6.bl) ((HBS.out.below q6.bl).more q6.bl.size)).mono ?_ | refine (HD4.out _ (HNT.out _ (q7.alloc _).drew.bl) (HTB.out _ (q7.alloc _).drew.bl) ((HBS.out.below (q7.alloc _).drew.bl).more (q7.alloc _).drew.bl.size)).mono ?_ | refine (HD4.out _ (HNT.out _ (q6.alloc _).bl) (HTB.out _ (q6.alloc _).bl) ((HBS.out.below (q6.alloc _).bl).more (q6.alloc _).bl.size)).mono ?_)
                 rintro e w9 ⟨rfl, hb9⟩
                 first
                   | (replace q6 := q6.below hb9
                      try replace hz6 := rowBelow hz6 hb9)
                   | (have hz6 := rowBelow hz hb9
                      have hX6 := hX0
                      have N1 := Lib.hid (Ne.symm (hX6.2 (w.heap.size, 24, 2, #[.int .i64 n, .slice A l.length c]) (by simp)))
                      have N2 := Lib.hid (Ne.symm (hX6.2 (w.heap.size, 24, 2, #[.int .i64 n, .slice A l.length c]) (by simp)))
                      replace q6 := (q7.alloc _).drew.below hb9)
                   | (have hX6 := q6.fresh
                      have N1 := Lib.hid (Ne.symm (hX6.2 (w.heap.size, 24, 2, #[.int .i64 n, .slice A l.length c]) (by simp)))
                      have N2 := Lib.hid (Ne.symm (hX6.2 (w.heap.size, 24, 2, #[.int .i64 n, .slice A l.length c]) (by simp)))
                      have hz6 := rowBelow (arrNew _ #[.int .u64 0, .int .u64 0] 30 _ 2 rfl rfl) hb9
                      replace q6 := (q6.alloc _).below hb9)
                 have m1 := q6.is (w.heap.size) 2 24 #[.int .i64 n, .slice A l.length c] (by simp) 0 (by decide) (.int .i64 n) rfl
                 have m2 := q6.is (w.heap.size) 2 24 #[.int .i64 n, .slice A l.length c] (by simp) 1 (by decide) (.slice A l.length c) rfl
                 try have y0 := hz6.frozen 0
                 try have z0 := hz6.cell (i := 0) (show 0 < 2 by decide)
                 try have y1 := hz6.frozen 1
                 try have z1 := hz6.cell (i := 1) (show 1 < 2 by decide)))
          all_goals
            try go_wp2
            go_meet
            case rel =>
              first
                | exact ⟨_, rfl, rfl, rfl, rfl, q6.new _ _ _ _ rfl rfl⟩
                | exact ⟨_, rfl, rfl, rfl, rfl, ((q6.other hX6.1 hX6.2 _ _).other hX6.1 hX6.2 _ _).cons (pairRow hz6 _ _)⟩
        case rest =>
          obtain ⟨gx, rfl, rfl, rfl, rfl, q8⟩ := hcut
          go_wp2_with fail
          refine (works_any _ (HTB.out _ q8.bl)).mono ?_
          rintro e w9 ⟨rfl, hb9⟩
          have hb := Cs.Below.trans' q8.bl hb9 q8.bl.size
          go_wp2_with fail
          go_ret
          exact ⟨rfl, hb⟩
      · have hr0 : decide ((0 : Int) < (u : Int) % 8) = true := decide_eq_true (by omega)
        have hi1 : (0 : Int) ≤ (u : Int) / 8 := by omega
        have hi2 : (u : Int) / 8 < (((u + 7) / 8 : Nat) : Int) := by omega
        have hi3 : u / 8 < (u + 7) / 8 := by omega
        have hr1 : (0 : Int) ≤ (u : Int) % 8 := by omega
        have hnx : nextB bs u other = (bs.take ((u + 7) / 8)).set (u / 8) (flip (bs.getD (u / 8) 0) (u % 8)) ++ other := by unfold nextB; rw [if_neg (by omega)]
        have HNX := Lib.hid hnx
        clear hnx
        obtain rfl := HLL.out
        clear HLL
        go_wp2_with (first
          | (at_builtin
             refine wpList_append_own _ rfl (.tmp 95) (.tmp 100) 25 rfl w4.heap.size 5 i0 (.int .u8 0) 1 1 Tryd.underlying25 hi hz0 hz1 hz2 rfl (by decide) _ _ _ rfl (World.ownsRow_made w4 #[] 0 (Nat.le_refl _) (Nat.zero_le _) rfl) aB ((u + 7) / 8) cb (byV (bs.take ((u + 7) / 8))) rfl ?qa1 ?qa2 (byV_one _) ?qa4 ?qa5 ?qa6 ?_
             case qa1 => rw [byV_len, List.length_take, HL.out]; omega
             case qa2 => exact by_news (m := ((u + 7) / 8)) ((HBS.out.below q4.bl).below ((Below.refl _ _).alloc q4.bl.size _)) (by omega) HL.out
             case qa4 => unfold maxLen; omega
             case qa5 => omega
             case qa6 => simp
             intro v1 w5 ho1 hg1 _
             rw [Nat.zero_add, List.nil_append] at ho1
             have hB1 : Below w4.heap.size w4 w5 := belowGrown ((Below.refl w4.heap.size w4).alloc (Nat.le_refl _) _) hg1 (by simp) (Nat.le_refl _)
             clear hg1
             obtain ⟨g, cap, rfl, hgb, hgl⟩ := ownsForm ho1 (by omega)
             have hcell := ownsCell ho1 (j := u / 8) (byV_get _ (u / 8) (by rw [List.length_take, HL.out]; omega))
             have hby : byF (bs.take ((u + 7) / 8)) (u / 8) = .int .u8 ((bs.getD (u / 8) 0 : Nat) : Int) := by
               unfold byF
               rw [List.getD_eq_getElem?_getD, List.getElem?_take_of_lt (by omega), ← List.getD_eq_getElem?_getD]
             rw [hby] at hcell
             have hfr := ho1.frozenAt (u / 8)
             have hx8 := HB8.out (u / 8)
             have hst := ho1.stored (u / 8) (.int .u8 ((flip (bs.getD (u / 8) 0) (u % 8) : Nat) : Int))
             rw [byV_set] at hst
             have hfl := flip_bits (bs.getD (u / 8) 0) (u % 8) hx8 (by omega)
             have hnx := HNX.out
             obtain ⟨x, hx⟩ : ∃ x, bs.getD (u / 8) 0 = x := ⟨_, rfl⟩
             rw [hx] at hcell hst hfl hnx
             have HNX2 := Lib.hid hnx
             have HST := Lib.hid hst
             clear hby hx hx8 hnx hst)
          | (at_builtin
             obtain ⟨ho2, hg2⟩ := HST.out
             have hB2 := belowGrown hB1 hg2 hB1.size hgb
             refine wpList_append_own _ rfl (.tmp 119) (.tmp 120) 25 rfl w4.heap.size 5 i0 (.int .u8 0) 1 1 Tryd.underlying25 hi hz0 hz1 hz2 rfl (by decide) _ _ _ rfl (ho2) aO lo co (byV (other.take lo)) rfl ?qb1 ?qb2 (byV_one _) ?qb4 ?qb5 ?qb6 ?_
             case qb1 => rw [byV_len, List.length_take, HLO.out]; omega
             case qb2 => exact by_news (m := lo) ((HOS.out.below q4.bl).below (hB2.mono q4.bl.size)) (by omega) HLO.out
             case qb4 => unfold maxLen; omega
             case qb5 => omega
             case qb6 => exact hB2.size
             intro v2 w7 ho3 hg3 _
             have hB3 := belowGrownV ho2 hB2 hB2.size hg3
             rw [show other.take lo = other from List.take_of_length_le (by rw [HLO.out]; omega)] at ho3
             have q5 := q4.below hB3
             have m1 := q5.is (w.heap.size) 2 24 #[.int .i64 n, .slice A l.length c] (by simp) 0 (by decide) (.int .i64 n) rfl
             have m2 := q5.is (w.heap.size) 2 24 #[.int .i64 n, .slice A l.length c] (by simp) 1 (by decide) (.slice A l.length c) rfl))
        rw [byV_append, ← HNX2.out] at ho3
        obtain ⟨A', c', hv, hrd⟩ := own_rd (f := byF (nextB bs u other)) ho3 (fun i hi => byV_get _ i (by rw [HNL.out]; omega))
        cases hv
        refine (HD2.out _ _ _ (HNT.out _ q5.bl) (HTB.out _ q5.bl) hrd).mono ?_
        rintro e w8 ⟨rfl, hb8⟩
        have q6 := q5.below hb8
        have m3 := q6.is0 0 (by decide) (.int .u64 (Cs.lo a : Int)) rfl
        have m4 := q6.is0 1 (by decide) (.int .u64 (Cs.hi a : Int)) rfl
        have m5 := q6.lt0
        have q7 := q6.new #[.int .u64 (Cs.lo a : Int), .int .u64 (Cs.hi a : Int)] 30 w8.heap.size 2 rfl rfl
        have m6 := q7.is0 0 (by decide) (.int .u64 (Cs.lo a : Int)) rfl
        have m7 := q7.is0 1 (by decide) (.int .u64 (Cs.hi a : Int)) rfl
        clear m1 m2 hb8 q5 hrd
        have k4 : decide ((0 : Int) < (u : Int)) = true := decide_eq_true (by omega)
        go_upto_region 19 with (fail)
        clear q6 m3 m4 m5 m6 m7
        obtain ⟨v1, hv1⟩ : ∃ v1 : Nat, u - 1 = v1 := ⟨_, rfl⟩
        obtain ⟨m2, hm2⟩ : ∃ m2 : Nat, (u - 1) / 8 = m2 := ⟨_, rfl⟩
        have hd3 := HD3.out hu0
        rw [hm2] at hd3
        have HD4 := Lib.hid hd3
        have hy1 : (0 : Int) ≤ (m2 : Int) := by omega
        have hy2 : (m2 : Int) ≤ (cb : Int) := by omega
        have hy3 : m2 ≤ cb := by omega
        have hz1 : IntKind.i64.wrap ((u : Int) - 1) = (v1 : Int) := by rw [IntKind.wrap_i64]; omega
        have hz2 : (v1 : Int).tdiv 8 = (m2 : Int) := by rw [Int.tdiv_eq_ediv_of_nonneg (by omega)]; omega
        have hz3 : (v1 : Int) / 8 = (m2 : Int) := by omega
        have hz4 : IntKind.i64.wrap (m2 : Int) = (m2 : Int) := by rw [IntKind.wrap_i64]; omega
        clear hd3 hm2 hv1
        generalize w8.alloc (.cells #[.int .u64 (Cs.lo a : Int), .int .u64 (Cs.hi a : Int)] 30) = W9 at q7 ⊢
        go_cut [18, 19, 20, 21] from 144 to 155 (fun p y x z wx => ∃ X, p = .pointer (some ⟨X, 0, none⟩) ∧ y = .int .i64 0 ∧ x = .bool false ∧ z = .int .i64 0 ∧ Bag w w w.heap.size ((X, 30, 2, #[.int .u64 0, .int .u64 0]) :: [(w8.heap.size, 30, 2, #[.int .u64 (Cs.lo a : Int), .int .u64 (Cs.hi a : Int)]), (w2.heap.size, 30, 2, #[.int .u64 (Cs.lo a : Int), .int .u64 (Cs.hi a : Int)]), (w.heap.size, 24, 2, #[.int .i64 n, .slice A l.length c])]) wx)
        case first =>
          have q6 := q7.drew
          have hz := (q7.new #[.int .u64 0, .int .u64 0] 30 _ 2 rfl rfl).row0.drew
          have hX0 := q7.fresh
          have m1 := q6.is (w.heap.size) 2 24 #[.int .i64 n, .slice A l.length c] (by simp) 0 (by decide) (.int .i64 n) rfl
          have m2 := q6.is (w.heap.size) 2 24 #[.int .i64 n, .slice A l.length c] (by simp) 1 (by decide) (.slice A l.length c) rfl
          go_region_held3 (fun w' => w'.cell? ⟨w.heap.size, 0, none⟩ = some (.int .i64 n) ∧ w'.cell? ⟨w.heap.size, 1, none⟩ = some (.slice A l.length c))
            (first | exact ⟨m1, m2⟩ | exact ⟨putFar N1.out m1, putFar N2.out m2⟩ | exact ⟨(q7.alloc _).drew.is (w.heap.size) 2 24 #[.int .i64 n, .slice A l.length c] (by simp) 0 (by decide) (.int .i64 n) rfl, (q7.alloc _).drew.is (w.heap.size) 2 24 #[.int .i64 n, .slice A l.length c] (by simp) 1 (by decide) (.slice A l.length c) rfl⟩ | exact ⟨(q6.alloc _).is (w.heap.size) 2 24 #[.int .i64 n, .slice A l.length c] (by simp) 0 (by decide) (.int .i64 n) rfl, (q6.alloc _).is (w.heap.size) 2 24 #[.int .i64 n, .slice A l.length c] (by simp) 1 (by decide) (.slice A l.length c) rfl⟩ | go_keep)
            (first
              | (go_simp
                 go_at_call 6
                 (with_reducible first | refine (HD4.out _ (HNT.out _ q6.bl) (HTB.out _ q6.bl) ((HBS.out.below q6.bl).more q6.bl.size)).mono ?_ | refine (HD4.out _ (HNT.out _ (q7.alloc _).drew.bl) (HTB.out _ (q7.alloc _).drew.bl) ((HBS.out.below (q7.alloc _).drew.bl).more (q7.alloc _).drew.bl.size)).mono ?_ | refine (HD4.out _ (HNT.out _ (q6.alloc _).bl) (HTB.out _ (q6.alloc _).bl) ((HBS.out.below (q6.alloc _).bl).more (q6.alloc _).bl.size)).mono ?_)
                 rintro e w9 ⟨rfl, hb9⟩
                 first
                   | (replace q6 := q6.below hb9
                      try replace hz6 := rowBelow hz6 hb9)
                   | (have hz6 := rowBelow hz hb9
                      have hX6 := hX0
                      have N1 := Lib.hid (Ne.symm (hX6.2 (w.heap.size, 24, 2, #[.int .i64 n, .slice A l.length c]) (by simp)))
                      have N2 := Lib.hid (Ne.symm (hX6.2 (w.heap.size, 24, 2, #[.int .i64 n, .slice A l.length c]) (by simp)))
                      replace q6 := (q7.alloc _).drew.below hb9)
                   | (have hX6 := q6.fresh
                      have N1 := Lib.hid (Ne.symm (hX6.2 (w.heap.size, 24, 2, #[.int .i64 n, .slice A l.length c]) (by simp)))
                      have N2 := Lib.hid (Ne.symm (hX6.2 (w.heap.size, 24, 2, #[.int .i64 n, .slice A l.length c]) (by simp)))
                      have hz6 := rowBelow (arrNew _ #[.int .u64 0, .int .u64 0] 30 _ 2 rfl rfl) hb9
                      replace q6 := (q6.alloc _).below hb9)
                 have m1 := q6.is (w.heap.size) 2 24 #[.int .i64 n, .slice A l.length c] (by simp) 0 (by decide) (.int .i64 n) rfl
                 have m2 := q6.is (w.heap.size) 2 24 #[.int .i64 n, .slice A l.length c] (by simp) 1 (by decide) (.slice A l.length c) rfl
                 try have y0 := hz6.frozen 0
                 try have z0 := hz6.cell (i := 0) (show 0 < 2 by decide)
                 try have y1 := hz6.frozen 1
                 try have z1 := hz6.cell (i := 1) (show 1 < 2 by decide)))
          all_goals
            try go_wp2
            go_meet
            case rel =>
              first
                | exact ⟨_, rfl, rfl, rfl, rfl, q6.new _ _ _ _ rfl rfl⟩
                | exact ⟨_, rfl, rfl, rfl, rfl, ((q6.other hX6.1 hX6.2 _ _).other hX6.1 hX6.2 _ _).cons (pairRow hz6 _ _)⟩
        case rest =>
          obtain ⟨gx, rfl, rfl, rfl, rfl, q8⟩ := hcut
          go_wp2_with fail
          refine (works_any _ (HTB.out _ q8.bl)).mono ?_
          rintro e w9 ⟨rfl, hb9⟩
          have hb := Cs.Below.trans' q8.bl hb9 q8.bl.size
          go_wp2_with fail
          go_ret
          exact ⟨rfl, hb⟩
end Go.Proofs.YtgnobohfnhpkdaaDoor
end
/-! The walk of SampleReads, for every argument. -/
section
set_option linter.unusedSimpArgs false
set_option linter.unusedVariables false
open Go Go.RowKit Cs
namespace Go.Proofs.YtgnobohfnhpkdaaDoor
theorem reads_any (w : World) (N : Nt) (A Ab Ao : Option Addr) (c cb co : Nat) (bs other : List Nat) (hlen : N.l.length ≤ 140737488355328) (hN : NtAt w w.heap.size A N.l) (hT : Tab w)
    (hlc : bs.length ≤ cb) (hnb : Ab = none → bs.length = 0 ∧ cb = 0) (hbs : Rd w w.heap.size Ab bs.length (byF bs)) (hb8 : ∀ i, bs.getD i 0 < 256)
    (hno : Ao = none → other.length = 0 ∧ co = 0) (hos : Rd w w.heap.size Ao other.length (byF other)) (ho8 : ∀ i, other.getD i 0 < 256) :
    Calls Tryd.prog 3 #[ntV N A c, .slice Ab bs.length cb, .slice Ao other.length co] w fun e w' => e = .returned (.bool true) ∧ Below w.heap.size w w' := by
  cases hf : fewS N bs.length
  · exact reads_no w N A Ab Ao c _ cb _ co hlen hN hT (.inl hf)
  · rcases Nat.lt_or_ge 64 other.length with h64 | h64
    · exact reads_no w N A Ab Ao c _ cb _ co hlen hN hT (.inr ⟨hf, h64⟩)
    · have hf2 := hf
      unfold fewS at hf2
      simp only [Bool.and_eq_true, decide_eq_true_eq] at hf2
      obtain ⟨⟨f1, _⟩, f3⟩ := hf2
      have hin := few_ins f1
      rcases dw_cases N bs with hD | ⟨h1, h2, h3, h4, r, u, hd, _⟩
      · exact reads_none w N A Ab Ao c _ cb _ co bs hlen hN hT hf h64 rfl (by omega) hbs hb8 hD hin
      · exact reads_some w N A Ab Ao c _ cb _ co bs other r u hlen hN hT hf h64 f3 rfl hlc (fun h => (hnb h).2) hbs hb8 rfl hno hos ho8 hin h1 h2 h3 h4 hd
end Go.Proofs.YtgnobohfnhpkdaaDoor
end
