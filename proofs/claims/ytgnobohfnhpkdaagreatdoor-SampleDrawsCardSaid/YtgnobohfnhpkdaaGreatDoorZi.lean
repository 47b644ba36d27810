/- The walk of SampleDraws, for every argument. -/
import Derived.Test.YtgnobohfnhpkdaaGreatDoorRO
import Derived.WalkMore
import Derived.Laws.BytesString
set_option linter.unusedSimpArgs false
set_option linter.unusedVariables false
open Go Go.RowKit Cs
namespace Go.Proofs.YtgnobohfnhpkdaaGreatDoor
noncomputable def bsS (bs : List Nat) : ByteArray := if bs.length = 0 then ByteArray.empty else strOfNums (bs.map fun b => ((b : Nat) : Int))
theorem conv_bs (W : World) (bs : List Nat) (Ab : Option Addr) (B cb : Nat) (h : Rd W B Ab bs.length (byF bs)) : (convert 25 9 (.slice Ab bs.length cb)).run Tryz.prog W = .ok (.string (bsS bs)) W := by
  unfold bsS
  by_cases h0 : bs.length = 0
  · rw [if_pos h0, h0, run_convert_bytes_string W 25 9 5 _ 0 cb Tryz.underlying25 Tryz.underlying5 Tryz.underlying9]
    cases Ab <;> simp [Conv.bytesToString, loadCells]
    all_goals rfl
  · rw [if_neg h0]
    obtain ⟨b, o, rfl, _, hc⟩ := h (by omega)
    refine run_convert_bytes_arg (P := Tryz.prog) W 25 5 Tryz.underlying25 Tryz.underlying5 b o bs.length cb _ (by simp) (fun i hi => ?_) 9 Tryz.underlying9
    rw [hc i hi]
    unfold byF
    have e : (bs.map fun b => ((b : Nat) : Int)).getD i 0 = ((bs.getD i 0 : Nat) : Int) := by simp [List.getD, List.getElem?_map, List.getElem?_eq_getElem hi]
    rw [e]
theorem few_n20 {N : Nt} {lb : Nat} (h : fewS N lb = true) : (vld N = true → N.n ≤ 20) ∧ lb ≤ 64 := by
  unfold fewS at h
  simp only [Bool.and_eq_true, Bool.or_eq_true, decide_eq_true_eq] at h
  exact ⟨fun hv => by obtain ⟨_, h2, _, _⟩ := vld_bounds hv; rcases h.1.2 with h3 | h3 <;> omega, h.2⟩
set_option maxRecDepth 100000 in
set_option maxHeartbeats 4000000 in
theorem draws_any (w : World) (N : Nt) (A Ab : Option Addr) (c cb : Nat) (bs : List Nat) (hlen : N.l.length ≤ 140737488355328) (hN : NtAt w w.heap.size A N.l) (hT : Tab w) (hbs : Rd w w.heap.size Ab bs.length (byF bs)) (hb8 : ∀ i, bs.getD i 0 < 256) :
    Calls Tryz.prog 3 #[ntV N A c, .slice Ab bs.length cb] w fun e w' => e = .returned (.bool true) ∧ Below w.heap.size w w' := by
  have hfw := fun W hN => fewS_any W N A Ab c bs.length cb hlen hN
  have HTB := Lib.hid (fun W (hb : Below w.heap.size w W) => hT.below hb)
  cases hf : fewS N bs.length
  · rw [hf] at hfw
    have HFW := Lib.hid hfw
    obtain ⟨Nn, l⟩ := N
    have q0 := (Bag.zero w).new #[.int .i64 Nn, .slice A l.length c] 24 w.heap.size 2 rfl rfl
    have HNT := Lib.hid (fun W (hb : Below w.heap.size w W) => (hN.below hb).more hb.size)
    clear hfw hf hN hbs hb8 hT
    go_enter Tryz.func3, Tryz.ntmps3
    go_wp2_with fail
    refine (HFW.out _ (HNT.out _ q0.bl)).mono ?_
    rintro e w1 ⟨rfl, hb1⟩
    have q1 := q0.below hb1
    clear hb1
    go_wp2_with fail
    refine (works_any _ (HTB.out _ q1.bl)).mono ?_
    rintro e w9 ⟨rfl, hb9⟩
    have hb := Cs.Below.trans' q1.bl hb9 q1.bl.size
    go_wp2_with fail
    go_ret
    exact ⟨rfl, hb⟩
  · obtain ⟨h20, h64⟩ := few_n20 hf
    have hin : ∀ k (hk : k < N.l.length), N.l[k].ins.length ≤ 1000000 := by
      have hf2 := hf
      unfold fewS at hf2
      simp only [Bool.and_eq_true] at hf2
      exact few_ins hf2.1.1
    rw [hf] at hfw
    have hdw := fun W hN hT hb => sdraw_any W N A c bs.length cb bs Ab hlen hN hT hin rfl (by omega) hb hb8
    have hrd := fun W hN hb => rdrawn_any W N A Ab c cb bs hlen hN h20 (by omega) hb hb8
    have hcv : ∀ W, Below w.heap.size w W → (convert 25 9 (.slice Ab bs.length cb)).run Tryz.prog W = .ok (.string (bsS bs)) W := fun W hb => conv_bs W bs Ab _ cb (hbs.below hb)
    obtain ⟨T, hT'⟩ : ∃ T, dwR N bs = T := ⟨_, rfl⟩
    rw [hT'] at hdw hrd
    obtain ⟨S, hS⟩ : ∃ S, bsS bs = S := ⟨_, rfl⟩
    rw [hS] at hcv
    obtain ⟨Ta, Tu, To, Te⟩ := T
    have hdw' : ∀ W, NtAt W W.heap.size A N.l → Tab W → Rd W W.heap.size Ab bs.length (byF bs) → Calls Tryz.prog 12 #[ntV N A c, .slice Ab bs.length cb] W fun e w' => e = .returned (.tuple #[.agg #[.int .u64 (Cs.lo Ta : Int), .int .u64 (Cs.hi Ta : Int)], .int .i64 (Tu : Int), .bool To, .int .i64 Te]) ∧ Below W.heap.size W w' := hdw
    have hrd' : ∀ W, NtAt W W.heap.size A N.l → Rd W W.heap.size Ab bs.length (byF bs) → Calls Tryz.prog 13 #[ntV N A c, .slice Ab bs.length cb] W fun e w' => e = .returned (.tuple #[.agg #[.int .u64 (Cs.lo Ta : Int), .int .u64 (Cs.hi Ta : Int)], .int .i64 (Tu : Int), .bool To, .int .i64 Te]) ∧ Below W.heap.size W w' := hrd
    have he : ∀ w, (Op.equalIn 10000 30 (.agg #[.int .u64 (Cs.lo Ta : Int), .int .u64 (Cs.hi Ta : Int)]) (.agg #[.int .u64 (Cs.lo Ta : Int), .int .u64 (Cs.hi Ta : Int)])).run Tryz.prog w = .ok true w := fun w => by rw [eq_set]; simp
    have HFW := Lib.hid hfw
    have HDW := Lib.hid hdw'
    have HRD := Lib.hid hrd'
    have HCV := Lib.hid hcv
    have HE := Lib.hid he
    have HBS := Lib.hid (fun W (hb : Below w.heap.size w W) => (hbs.below hb).more hb.size)
    clear hfw hdw hrd hdw' hrd' hcv he hf h20 h64 hin hT' hS hbs hb8 hT
    obtain ⟨Nn, l⟩ := N
    have q0 := (Bag.zero w).new #[.int .i64 Nn, .slice A l.length c] 24 w.heap.size 2 rfl rfl
    have HNT := Lib.hid (fun W (hb : Below w.heap.size w W) => (hN.below hb).more hb.size)
    clear hN
    go_enter Tryz.func3, Tryz.ntmps3
    go_wp2_with fail
    refine (HFW.out _ (HNT.out _ q0.bl)).mono ?_
    rintro e w1 ⟨rfl, hb1⟩
    have q1 := q0.below hb1
    have cv1 := HCV.out _ q1.bl
    have m1 := q1.is0 0 (by decide) (.int .i64 Nn) rfl
    have m2 := q1.is0 1 (by decide) (.slice A l.length c) rfl
    clear hb1
    go_wp2_with fail
    refine (HDW.out _ (HNT.out _ q1.bl) (HTB.out _ q1.bl) (HBS.out _ q1.bl)).mono ?_
    rintro e w2 ⟨rfl, hb2⟩
    have q2 := (q1.below hb2).new #[.int .u64 (Cs.lo Ta : Int), .int .u64 (Cs.hi Ta : Int)] 30 w2.heap.size 2 rfl rfl
    clear m1 m2 cv1 hb2
    have m1 := q2.tail.is0 0 (by decide) (.int .i64 Nn) rfl
    have m2 := q2.tail.is0 1 (by decide) (.slice A l.length c) rfl
    go_wp2_with fail
    refine (HRD.out _ (HNT.out _ q2.bl) (HBS.out _ q2.bl)).mono ?_
    rintro e w3 ⟨rfl, hb3⟩
    have q3 := (q2.below hb3).new #[.int .u64 (Cs.lo Ta : Int), .int .u64 (Cs.hi Ta : Int)] 30 w3.heap.size 2 rfl rfl
    clear m1 m2 hb3
    have p1 := q3.is0 0 (by decide) (.int .u64 (Cs.lo Ta : Int)) rfl
    have p2 := q3.is0 1 (by decide) (.int .u64 (Cs.hi Ta : Int)) rfl
    have p3 := q3.tail.is0 0 (by decide) (.int .u64 (Cs.lo Ta : Int)) rfl
    have p4 := q3.tail.is0 1 (by decide) (.int .u64 (Cs.hi Ta : Int)) rfl
    have cv3 := HCV.out _ q3.bl
    have he := HE.out
    go_wp2_with fail
    refine (works_any _ (HTB.out _ q3.bl)).mono ?_
    rintro e w9 ⟨rfl, hb9⟩
    have hb := Cs.Below.trans' q3.bl hb9 q3.bl.size
    go_wp2_with fail
    go_ret
    exact ⟨rfl, hb⟩
end Go.Proofs.YtgnobohfnhpkdaaGreatDoor
