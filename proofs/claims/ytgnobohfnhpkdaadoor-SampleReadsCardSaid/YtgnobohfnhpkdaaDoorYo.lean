/- The walk of SampleReads. -/
import Derived.Test.YtgnobohfnhpkdaaDoorYn
import Derived.Test.YtgnobohfnhpkdaaDoorYa
import Derived.Laws.AppendOwnNone
import Derived.Laws.AppendOwn
import Derived.Deep.CutRange
import Derived.WalkSpells
set_option linter.unusedSimpArgs false
set_option linter.unusedVariables false
open Go Go.RowKit Cs
namespace Cs
/-- Bytes as values. -/
def byV (bs : List Nat) : List Value := bs.map fun (b : Nat) => Value.int .u8 (b : Int)
theorem byV_len (bs : List Nat) : (byV bs).length = bs.length := by simp [byV]
theorem byV_get (bs : List Nat) (i : Nat) (h : i < bs.length) : (byV bs)[i]? = some (byF bs i) := by
  unfold byV byF
  rw [List.getElem?_map, List.getElem?_eq_getElem h, List.getD_eq_getElem?_getD, List.getElem?_eq_getElem h]
  rfl
theorem byV_one (bs : List Nat) : ∀ u ∈ byV bs, u.oneCell' = true := fun u hu => by
  obtain ⟨b, _, rfl⟩ := List.mem_map.1 hu
  rfl
theorem byV_append (a b : List Nat) : byV a ++ byV b = byV (a ++ b) := by simp [byV]
theorem byV_set (a : List Nat) (i b : Nat) : (byV a).set i (.int .u8 (b : Int)) = byV (a.set i b) := by simp [byV, List.map_set]
/-- What is read of a slice, as the source of an append. -/
theorem by_news {W : World} {B : Nat} {a : Addr} {n m : Nat} {bs : List Nat} (h : Rd W B (some a) n (byF bs)) (hm : m ≤ n) (hl : bs.length = n) : ∀ j u, (byV (bs.take m))[j]? = some u → W.cell? (a.add j) = some u := fun j u hj => by
  have hjm : j < m := by
    rcases Nat.lt_or_ge j m with h1 | h1
    · exact h1
    · rw [List.getElem?_eq_none (by rw [byV_len, List.length_take]; omega)] at hj; cases hj
  obtain ⟨b, o, e, _, hc⟩ := h (by omega)
  cases e
  rw [byV_get _ _ (by rw [List.length_take]; omega)] at hj
  injection hj with hj
  subst hj
  have e : (⟨b, o, none⟩ : Addr).add j = ⟨b, o + j, none⟩ := by unfold Addr.add; split <;> simp_all
  rw [e, hc j (by omega)]
  unfold byF
  rw [List.getD_eq_getElem?_getD, List.getD_eq_getElem?_getD, List.getElem?_take_of_lt hjm]
theorem flip_bits (x r : Nat) (hx : x < 256) (hr : r < 8) : bits BinOp.xor IntKind.u8 (x : Int) ((255 : Int) / 2 ^ r) = ((flip x r : Nat) : Int) := by
  have h : ∀ r : Nat, r < 8 → ∀ x : Nat, x < 256 → bits BinOp.xor IntKind.u8 (x : Int) ((255 : Int) / 2 ^ r) = ((flip x r : Nat) : Int) := by decide +kernel
  exact h r hr x hx
/-- What Draw returns: nothing, with the error of Need; or a model. -/
theorem dw_cases (N : Nt) (bs : List Nat) : dwR N bs = Tk.no (needE N) ∨ (needE N = 0 ∧ cchk N = 0 ∧ cntN N ≠ 0 ∧ needK N = nd 2 (cntN N - 1) ∧ ∃ r u, drawN (cntN N) bs = some (r, u) ∧ dwR N bs = ⟨choiceN N N.n.toNat (onesP N.n.toNat) (onesP N.n.toNat) r, u, true, 0⟩) := by
  unfold dwR needE needK
  by_cases h0 : cchk N = 0
  · rw [if_pos h0, if_pos h0, if_pos h0]
    by_cases h1 : cntN N = 0
    · rw [if_pos h1, if_pos h1]; exact .inl rfl
    · rw [if_neg h1, if_neg h1]
      rcases h : drawN (cntN N) bs with _ | ⟨r, u⟩
      · exact .inl rfl
      · exact .inr ⟨rfl, h0, h1, rfl, r, u, rfl, rfl⟩
  · rw [if_neg h0, if_neg h0]; exact .inl rfl
theorem dw_of {N : Nt} (h0 : cchk N = 0) (h1 : cntN N ≠ 0) (bs : List Nat) : dwR N bs = tkD N N.n.toNat (onesP N.n.toNat) (onesP N.n.toNat) (drawN (cntN N) bs) := by
  unfold dwR
  rw [if_pos h0, if_neg h1]
end Cs
namespace Go.Proofs.YtgnobohfnhpkdaaDoor
theorem eq_self_set (a : Nat) (W : World) : (Op.equalIn 10000 30 (setV a) (setV a)).run Tryd.prog W = .ok true W := by
  unfold setV; rw [eq_set]; simp
theorem info_u8' : (Tryd.prog.info? 5).map (fun i => (i.zero, i.size, i.bytes)) = some (some (.int .u8 0), 1, 1) := by kernel_rfl
set_option maxRecDepth 100000 in
set_option maxHeartbeats 4000000 in
theorem reads_no (w : World) (N : Nt) (A Ab Ao : Option Addr) (c lb cb lo co : Nat) (hlen : N.l.length ≤ 140737488355328) (hN : NtAt w w.heap.size A N.l) (hT : Tab w) (h : fewS N lb = false ∨ (fewS N lb = true ∧ 64 < lo)) :
    Calls Tryd.prog 3 #[ntV N A c, .slice Ab lb cb, .slice Ao lo co] w fun e w' => e = .returned (.bool true) ∧ Below w.heap.size w w' := by
  have hfw := fun W hN => fewS_any W N A Ab c lb cb hlen hN
  obtain ⟨n, l⟩ := N
  have q0 := (Bag.zero w).new #[.int .i64 n, .slice A l.length c] 24 w.heap.size 2 rfl rfl
  rcases h with h | ⟨h, h2⟩
  · rw [h] at hfw
    go_enter Tryd.func3, Tryd.ntmps3
    go_wp2_with fail
    refine (hfw _ ((hN.below q0.bl).more q0.bl.size)).mono ?_
    rintro e w1 ⟨rfl, hb1⟩
    have q1 := q0.below hb1
    clear hfw h
    go_wp2_with fail
    refine (works_any _ (hT.below q1.bl)).mono ?_
    rintro e w2 ⟨rfl, hb2⟩
    have hb := Cs.Below.trans' q1.bl hb2 q1.bl.size
    go_wp2_with fail
    go_ret
    exact ⟨rfl, hb⟩
  · rw [h] at hfw
    have d1 : decide ((64 : Int) < (lo : Int)) = true := decide_eq_true (by omega)
    go_enter Tryd.func3, Tryd.ntmps3
    go_wp2_with fail
    refine (hfw _ ((hN.below q0.bl).more q0.bl.size)).mono ?_
    rintro e w1 ⟨rfl, hb1⟩
    have q1 := q0.below hb1
    clear hfw h
    go_wp2_with fail
    refine (works_any _ (hT.below q1.bl)).mono ?_
    rintro e w2 ⟨rfl, hb2⟩
    have hb := Cs.Below.trans' q1.bl hb2 q1.bl.size
    go_wp2_with fail
    go_ret
    exact ⟨rfl, hb⟩
set_option maxRecDepth 100000 in
set_option maxHeartbeats 4000000 in
/-- Nothing is drawn. -/
theorem reads_none (w : World) (N : Nt) (A Ab Ao : Option Addr) (c lb cb lo co : Nat) (bs : List Nat) (hlen : N.l.length ≤ 140737488355328) (hN : NtAt w w.heap.size A N.l) (hT : Tab w) (hf : fewS N lb = true) (h64 : lo ≤ 64)
    (hl : bs.length = lb) (hl2 : lb ≤ 1000000) (hbs : Rd w w.heap.size Ab lb (byF bs)) (hb8 : ∀ i, bs.getD i 0 < 256) (hD : dwR N bs = Tk.no (needE N)) (hin : ∀ k (hk : k < N.l.length), N.l[k].ins.length ≤ 1000000) :
    Calls Tryd.prog 3 #[ntV N A c, .slice Ab lb cb, .slice Ao lo co] w fun e w' => e = .returned (.bool true) ∧ Below w.heap.size w w' := by
  have hfw := fun W hN => fewS_any W N A Ab c lb cb hlen hN
  rw [hf] at hfw
  have hdw := fun W hN hT hbs => sdraw_any W N A c lb cb bs Ab hlen hN hT hin hl hl2 hbs hb8
  have htv : tkV (dwR N bs) = .tuple #[.agg #[.int .u64 0, .int .u64 0], .int .i64 0, .bool false, .int .i64 (needE N)] := by
    rw [hD]
    show Value.tuple #[setV 0, _, _, _] = _
    have e1 : setV 0 = .agg #[.int .u64 0, .int .u64 0] := by
      unfold setV; rw [show Cs.lo 0 = 0 by decide, show Cs.hi 0 = 0 by decide]; rfl
    rw [e1]; rfl
  rw [htv] at hdw
  have hnd := fun W hN hT => need_any W N A c hlen hN hT
  obtain ⟨E, hE⟩ : ∃ E, needE N = E := ⟨_, rfl⟩
  obtain ⟨K, hK⟩ : ∃ K, needK N = K := ⟨_, rfl⟩
  rw [hE] at hdw hnd
  rw [hK] at hnd
  have HFW := Lib.hid hfw
  have HDW := Lib.hid hdw
  have HND := Lib.hid hnd
  have HBS := Lib.hid hbs
  have d1 : decide ((64 : Int) < (lo : Int)) = false := decide_eq_false (by omega)
  have he : ∀ w, (Op.equalIn 10000 30 (.agg #[.int .u64 0, .int .u64 0]) (.agg #[.int .u64 0, .int .u64 0])).run Tryd.prog w = .ok true w := fun w => by rw [eq_set]; simp
  clear hfw hdw hnd hE hK htv hD hbs hin hf hb8 hl
  obtain ⟨n, l⟩ := N
  have q0 := (Bag.zero w).new #[.int .i64 n, .slice A l.length c] 24 w.heap.size 2 rfl rfl
  have hee : (E != E) = false := by simp
  have h0 : E = 0 ∨ ((E == 0) = false ∧ (E != 0) = true) := by
    by_cases h : E = 0
    · exact .inl h
    · exact .inr ⟨beq_eq_false_iff_ne.2 h, by simp [bne, beq_eq_false_iff_ne.2 h]⟩
  rcases h0 with rfl | ⟨h0, h0'⟩
  all_goals
    go_enter Tryd.func3, Tryd.ntmps3
    go_wp2_with fail
    refine (HFW.out _ ((hN.below q0.bl).more q0.bl.size)).mono ?_
    rintro e w1 ⟨rfl, hb1⟩
    have q1 := q0.below hb1
    have m1 := q1.is0 0 (by decide) (.int .i64 n) rfl
    have m2 := q1.is0 1 (by decide) (.slice A l.length c) rfl
    clear hb1
    go_wp2_with fail
    refine (HDW.out _ ((hN.below q1.bl).more q1.bl.size) (hT.below q1.bl) ((HBS.out.below q1.bl).more q1.bl.size)).mono ?_
    rintro e w2 ⟨rfl, hb2⟩
    have q2 := q1.below hb2
    have q3 := q2.new #[.int .u64 0, .int .u64 0] 30 w2.heap.size 2 rfl rfl
    have m3 := q2.is0 0 (by decide) (.int .i64 n) rfl
    have m4 := q2.is0 1 (by decide) (.slice A l.length c) rfl
    have m5 := q2.lt0
    clear hb2 m1 m2
    go_wp2_with fail
    refine (HND.out _ ((hN.below q3.bl).more q3.bl.size) (hT.below q3.bl)).mono ?_
    rintro e w4 ⟨rfl, hb4⟩
    have q4 := q3.below hb4
    have m6 := q4.is0 0 (by decide) (.int .u64 0) rfl
    have m7 := q4.is0 1 (by decide) (.int .u64 0) rfl
    clear hb4 m3 m4 m5
    go_wp2_with fail
    refine (works_any _ (hT.below q4.bl)).mono ?_
    rintro e w5 ⟨rfl, hb5⟩
    have hb := Cs.Below.trans' q4.bl hb5 q4.bl.size
    go_wp2_with fail
    go_ret
    exact ⟨rfl, hb⟩
end Go.Proofs.YtgnobohfnhpkdaaDoor
