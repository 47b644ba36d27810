import Derived.Test.YtgnobohfnhpkdaaGreatDoorN4
import Derived.WalkMore
import Derived.Test.YtgnobohfnhpkdaaGreatDoorYl
set_option linter.unusedSimpArgs false
set_option linter.unusedVariables false
set_option maxRecDepth 100000
set_option maxHeartbeats 4000000
section
open Go Go.RowKit Cs
namespace Go.Proofs.YtgnobohfnhpkdaaGreatDoor
def insN : List Nd → Nat
 | [] => 0
 | x :: xs => x.ins.length + insN xs
theorem insN_snoc (x : Nd) : ∀ xs : List Nd, insN (xs ++ [x]) = insN xs + x.ins.length
 | [] => by simp [insN]
 | y :: ys => by simp only [List.cons_append, insN, insN_snoc x ys]; omega
def fewB (N : Nt) : Bool := decide (N.l.length ≤ 60) && decide (insN N.l ≤ 300)
theorem few_any (w : World) (N : Nt) (A : Option Addr) (c : Nat) (hlen : N.l.length ≤ 140737488355328) (hN : NtAt w w.heap.size A N.l) :
  Calls Tryz.prog 24 #[ntV N A c] w fun e w' => e = .returned (.bool (fewB N)) ∧ Below w.heap.size w w' := by
 obtain ⟨n, l⟩ := N;simp only at hlen hN;have hbl : Below w.heap.size w (w.alloc (.cells #[.int .i64 n, .slice A l.length c] 24)) := (zqr _ _).alloc (zqn _) _;have hN' := hN.below hbl;have hf : fewB ⟨n, l⟩ = (decide (l.length ≤ 60) && decide (insN l ≤ 300)) := rfl;obtain ⟨F, hF⟩ : ∃ F, fewB ⟨n, l⟩ = F := ⟨_, rfl⟩;rw [hF] at hf ⊢;have HF := zqh hf;clear hf hN hF
 go_enter Tryz.func24, Tryz.ntmps24
 go_wp2
 go_loop [3, 4] (fun s t => ∃ (k : Nat) (j : Int), k ≤ l.length ∧ t = .int .i64 k ∧ s = .int .i64 j ∧ Hid (l.length ≤ 60 → j = (insN (l.take k) : Int) ∧ j ≤ 140737488355328 * k)) (fun _ t => l.length - (intOf t).toNat)
 case atStart => exact ⟨0, 0, by omega, rfl, rfl, fun _ => ⟨rfl, by omega⟩⟩
 case round =>
  obtain ⟨k, j, hk, rfl, rfl, HJ⟩ := hrel;by_cases hlt : k < l.length
  ·obtain ⟨b, o, rfl, hbB, hcs⟩ := hN' (by omega);obtain ⟨hk1, hk2, ⟨A', c', hk3, hrd⟩, hr1, hr2, hr3, hr4⟩ := hcs k hlt;have ht : l.take (k + 1) = l.take k ++ [l[k]] := List.take_succ_eq_append_getElem hlt;have hsn := insN_snoc l[k] (l.take k);rw [← ht] at hsn;obtain ⟨x, hx⟩ : ∃ x, l[k] = x := ⟨_, rfl⟩;rw [hx] at hk3 hr4 hsn;have HSN := zqh hsn;clear ht hx hsn hk1 hk2 hrd hr1 hr2 hr3 hcs hN'
   go_wp2
   go_round
   case rel =>
    refine ⟨k + 1, _, by omega, by go_num, rfl, fun h => ?_⟩;obtain ⟨q1, q2⟩ := HJ.out h
    have hw : wrap64 (j + (x.ins.length : Int)) = j + (x.ins.length : Int) := by unfold wrap64; omega
    refine ⟨?_, ?_⟩
    ·first | (rw [hw, HSN.out]; omega) | (rw [HSN.out]; omega)
    ·first | (rw [hw]; omega) | omega
   case measure => simp [intOf]; omega
  ·obtain rfl : k = l.length := by omega
   have hj := HJ.out;rw [List.take_length] at hj;have HJ2 := zqh hj;clear hlt hj hN';by_cases h60 : l.length ≤ 60
   ·have h := (HJ2.out h60).1;have HJ3 := zqh h;have hf2 := HF.out;rw [decide_eq_true h60, Bool.true_and] at hf2
    have e : decide (insN l ≤ 300) = decide (j ≤ 300) := by rw [HJ3.out, Bool.eq_iff_iff]; simp; omega
    rw [e] at hf2;have HF2 := zqh hf2;clear h hf2 e
    go_wp2
    go_ret
    exact ⟨by rw [HF2.out]; try rfl, hbl⟩
   ·have hf2 := HF.out;rw [decide_eq_false h60, Bool.false_and] at hf2;have HF2 := zqh hf2;clear hf2
    go_wp2
    go_ret
    exact ⟨by rw [HF2.out]; try rfl, hbl⟩
theorem few_ins {N : Nt} (h : fewB N = true) : ∀ k (hk : k < N.l.length), N.l[k].ins.length ≤ 1000000 := by
 have h2 : insN N.l ≤ 300 := by unfold fewB at h; simp at h; exact h.2
 have : ∀ (l : List Nd) k (hk : k < l.length), l[k].ins.length ≤ insN l := fun l => by
  induction l with
  | nil => intro k hk; simp at hk
  | cons x xs ih =>
    intro k hk;cases k with
    | zero => show x.ins.length ≤ x.ins.length + insN xs; omega
    | succ k =>
      have := ih k (by simpa using hk);have e : (x :: xs)[k + 1] = xs[k]'(by simpa using hk) := rfl;rw [e];show _ ≤ x.ins.length + insN xs;omega
 intro k hk;exact Nat.le_trans (this N.l k hk) (by omega)
end Go.Proofs.YtgnobohfnhpkdaaGreatDoor
end
section
open Go Go.RowKit Cs
namespace Cs
def chpN : Nt := ⟨2, [⟨2, 1, []⟩, ⟨2, -1, []⟩, ⟨2, 2, []⟩, ⟨3, 0, [1, 2]⟩, ⟨4, 0, [0, 3]⟩]⟩
def chpNA (b3 b4 : Nat) : Array Value := #[.int .i64 2, .int .i64 1, .slice none 0 0, .int .i64 2, .int .i64 (-1), .slice none 0 0, .int .i64 2, .int .i64 2, .slice none 0 0, .int .i64 3, .int .i64 0, .slice (some ⟨b3, 0, none⟩) 2 2, .int .i64 4, .int .i64 0, .slice (some ⟨b4, 0, none⟩) 2 2]
theorem chpN_at {w : World} {B g b3 b4 : Nat} {t : TypeId} {s : TypeId} (hg : g < B) (h3 : b3 < B) (r3 : w.rowIs b3 s 2 (arrF #[.int .i64 1, .int .i64 2])) (h4 : b4 < B) (r4 : w.rowIs b4 s 2 (arrF #[.int .i64 0, .int .i64 3])) (hr : w.rowIs g t 15 (arrF (chpNA b3 b4))) : NtAt w B (some ⟨g, 0, none⟩) chpN.l := fun _ => by
 refine ⟨g, 0, rfl, hg, fun i hi => ?_⟩
 match i, hi with
 | 0, _ => exact ⟨hr.cell (i := 0) (by decide), hr.cell (i := 1) (by decide), ⟨none, 0, hr.cell (i := 2) (by decide), Rd.zero _ _ _ _⟩, (show r64 (2) by unfold r64; decide), (show r64 (1) by unfold r64; decide), (show ∀ i ∈ ([] : List Int), r64 i by unfold r64; decide), (show ([] : List Int).length ≤ 140737488355328 by decide)⟩
 | 1, _ => exact ⟨hr.cell (i := 3) (by decide), hr.cell (i := 4) (by decide), ⟨none, 0, hr.cell (i := 5) (by decide), Rd.zero _ _ _ _⟩, (show r64 (2) by unfold r64; decide), (show r64 (-1) by unfold r64; decide), (show ∀ i ∈ ([] : List Int), r64 i by unfold r64; decide), (show ([] : List Int).length ≤ 140737488355328 by decide)⟩
 | 2, _ => exact ⟨hr.cell (i := 6) (by decide), hr.cell (i := 7) (by decide), ⟨none, 0, hr.cell (i := 8) (by decide), Rd.zero _ _ _ _⟩, (show r64 (2) by unfold r64; decide), (show r64 (2) by unfold r64; decide), (show ∀ i ∈ ([] : List Int), r64 i by unfold r64; decide), (show ([] : List Int).length ≤ 140737488355328 by decide)⟩
 | 3, _ => exact ⟨hr.cell (i := 9) (by decide), hr.cell (i := 10) (by decide), ⟨some ⟨b3, 0, none⟩, 2, hr.cell (i := 11) (by decide), Rd.of_row (r3.congr fun j hj => by
    match j, hj with
    | 0, _ => rfl
    | 1, _ => rfl
    ) (zqn _) h3⟩, (show r64 (3) by unfold r64; decide), (show r64 (0) by unfold r64; decide), (show ∀ i ∈ ([1, 2] : List Int), r64 i by unfold r64; decide), (show ([1, 2] : List Int).length ≤ 140737488355328 by decide)⟩
 | 4, _ => exact ⟨hr.cell (i := 12) (by decide), hr.cell (i := 13) (by decide), ⟨some ⟨b4, 0, none⟩, 2, hr.cell (i := 14) (by decide), Rd.of_row (r4.congr fun j hj => by
    match j, hj with
    | 0, _ => rfl
    | 1, _ => rfl
    ) (zqn _) h4⟩, (show r64 (4) by unfold r64; decide), (show r64 (0) by unfold r64; decide), (show ∀ i ∈ ([0, 3] : List Int), r64 i by unfold r64; decide), (show ([0, 3] : List Int).length ≤ 140737488355328 by decide)⟩
end Cs
namespace Go.Proofs.YtgnobohfnhpkdaaGreatDoor
theorem size_net : (Tryz.prog.info? 24).map (·.size) = some 2 := by kernel_rfl
theorem chapter_any (w : World) : Calls Tryz.prog 23 #[] w fun e w' => ∃ g, e = .returned (ntV chpN (some ⟨g, 0, none⟩) 5) ∧ NtAt w' w'.heap.size (some ⟨g, 0, none⟩) chpN.l ∧ Below w.heap.size w w' := by
 have r0 := arrNew w #[.int .i64 2, .slice (some ⟨w.heap.size + 1 + 1 + 1, 0, none⟩) 5 5] 24 w.heap.size 2 rfl rfl;have r3 := arrNew (w.alloc (.cells #[.int .i64 2, .slice (some ⟨w.heap.size + 1 + 1 + 1, 0, none⟩) 5 5] 24)) #[.int .i64 1, .int .i64 2] 3 (w.heap.size + 1) 2 (by simp) rfl;have r4 := arrNew ((w.alloc (.cells #[.int .i64 2, .slice (some ⟨w.heap.size + 1 + 1 + 1, 0, none⟩) 5 5] 24)).alloc (.cells #[.int .i64 1, .int .i64 2] 3)) #[.int .i64 0, .int .i64 3] 3 (w.heap.size + 1 + 1) 2 (by simp) rfl;have r5 := arrNew (((w.alloc (.cells #[.int .i64 2, .slice (some ⟨w.heap.size + 1 + 1 + 1, 0, none⟩) 5 5] 24)).alloc (.cells #[.int .i64 1, .int .i64 2] 3)).alloc (.cells #[.int .i64 0, .int .i64 3] 3)) (chpNA (w.heap.size + 1) (w.heap.size + 1 + 1)) 56 (w.heap.size + 1 + 1 + 1) 15 (by simp) rfl;have hnt := chpN_at (B := w.heap.size + 1 + 1 + 1 + 1) (by omega) (by omega) ((r3.alloc _).alloc _) (by omega) (r4.alloc _) r5;have hbl := ((((Below.refl w.heap.size w).alloc (zqn _) (.cells #[.int .i64 2, .slice (some ⟨w.heap.size + 1 + 1 + 1, 0, none⟩) 5 5] 24)).alloc (by simp) (.cells #[.int .i64 1, .int .i64 2] 3)).alloc (by simp; omega) (.cells #[.int .i64 0, .int .i64 3] 3)).alloc (by simp; omega) (.cells (chpNA (w.heap.size + 1) (w.heap.size + 1 + 1)) 56);have R0 := zqh (((r0.alloc (.cells #[.int .i64 1, .int .i64 2] 3)).alloc (.cells #[.int .i64 0, .int .i64 3] 3)).alloc (.cells (chpNA (w.heap.size + 1) (w.heap.size + 1 + 1)) 56));have HNT := zqh hnt;have HBL := zqh hbl;clear r0 r3 r4 r5 hnt hbl
 go_enter Tryz.func23, Tryz.ntmps23
 go_wp2
 refine ret_row rfl w.heap.size 24 2 _ rfl R0.out _ Tryz.underlying24 rfl size_net rfl ⟨w.heap.size + 1 + 1 + 1, rfl, ?_, HBL.out⟩;exact HNT.out.more (by simp)
theorem chp_ins : ∀ k (hk : k < chpN.l.length), chpN.l[k].ins.length ≤ 1000000 := fun k hk => by
 have : ∀ x ∈ chpN.l, x.ins.length ≤ 1000000 := by decide
 exact this _ (List.getElem_mem hk)
theorem one_byte (b : Nat) (hb : b < 256) : ∀ i, ([b] : List Nat).getD i 0 < 256
 | 0 => hb
 | i + 1 => by show (0 : Nat) < 256; decide
theorem drawn_any (w : World) (hT : Tab w) (b a u : Nat) (ok : Bool) (hb : b < 256) (hD : dwR chpN [b] = ⟨a, u, ok, 0⟩) (ha : a < 18446744073709551616) :
  Calls Tryz.prog 25 #[.int .u8 (b : Int), .int .u64 (a : Int), .int .i64 (u : Int), .bool ok] w fun e w' => e = .returned (.bool true) ∧ Below w.heap.size w w' := by
 have hcp := chapter_any w
 have hsa : setV a = .agg #[.int .u64 (a : Int), .int .u64 0] := by
  have e1 : (lo a : Int) = (a : Int) := by unfold lo; omega
  have e2 : (hi a : Int) = 0 := by unfold hi; omega
  unfold setV;rw [e1, e2]
 have hdw := fun W g hN hT hbs => sdraw_any W chpN (some ⟨g, 0, none⟩) 5 1 1 [b] (some ⟨W.heap.size - 1, 0, none⟩) (by decide) hN hT chp_ins rfl (by decide) hbs (one_byte b hb)
 have htv : tkV (dwR chpN [b]) = .tuple #[.agg #[.int .u64 (a : Int), .int .u64 0], .int .i64 (u : Int), .bool ok, .int .i64 0] := by rw [hD]; unfold tkV; rw [hsa]
 rw [htv] at hdw
 have hdw' : ∀ W g gb, NtAt W W.heap.size (some ⟨g, 0, none⟩) chpN.l → Tab W → Rd W W.heap.size (some ⟨gb, 0, none⟩) 1 (byF [b]) → Calls Tryz.prog 12 #[ntV chpN (some ⟨g, 0, none⟩) 5, .slice (some ⟨gb, 0, none⟩) 1 1] W fun e w' => e = .returned (.tuple #[.agg #[.int .u64 (a : Int), .int .u64 0], .int .i64 (u : Int), .bool ok, .int .i64 0]) ∧ Below W.heap.size W w' := fun W g gb hN hT hbs => by
  have := sdraw_any W chpN (some ⟨g, 0, none⟩) 5 1 1 [b] (some ⟨gb, 0, none⟩) (by decide) hN hT chp_ins rfl (by decide) hbs (one_byte b hb);rw [htv] at this;exact this
 have he : ∀ w, (Op.equalIn 10000 30 (.agg #[.int .u64 (a : Int), .int .u64 0]) (.agg #[.int .u64 (a : Int), .int .u64 0])).run Tryz.prog w = .ok true w := fun w => by rw [eq_set]; simp
 have HCP := zqh hcp;have HDW := zqh hdw';clear hcp hdw hdw' htv hsa hD
 go_enter Tryz.func25, Tryz.ntmps25
 go_wp2_with fail
 refine HCP.out.mono ?_;rintro e w1 ⟨g, rfl, hnt, hb1⟩;have hT1 := hT.below hb1;have hb2 : Below w1.heap.size w1 (w1.alloc (.cells #[.int .u8 (b : Int)] 5)) := (zqr _ _).alloc (zqn _) _;have hr2 := boxNew w1 (.int .u8 (b : Int)) 5 _ rfl
 have hr3 : (w1.alloc (.cells #[.int .u8 (b : Int)] 5)).rowIs w1.heap.size 5 1 (byF [b]) := hr2.congr (fun i hi => by
  obtain rfl : i = 0 := by omega
  rfl)
 have h4 : Rd (w1.alloc (.cells #[.int .u8 (b : Int)] 5)) (w1.alloc (.cells #[.int .u8 (b : Int)] 5)).heap.size (some ⟨w1.heap.size, 0, none⟩) 1 (byF [b]) := Rd.of_row hr3 (zqn _) (by simp);have H4 := zqh h4;clear hr2 hr3 h4
 go_wp2_with fail
 refine (HDW.out _ g w1.heap.size ((hnt.below hb2).more hb2.size) (hT1.below hb2) H4.out).mono ?_;rintro e w3 ⟨rfl, hb3⟩;have hb4 := hb1.trans ((hb2.trans (hb3.mono hb2.size)).mono hb1.size)
 go_wp2_with fail
 go_ret
 exact ⟨rfl, hb4.alloc (by have := hb4.size; omega) _⟩
theorem chp_dw0 : dwR chpN [0] = ⟨2, 2, true, 0⟩ := by decide +kernel
theorem drawn0 (w : World) (hT : Tab w) : Calls Tryz.prog 25 #[.int .u8 0, .int .u64 2, .int .i64 2, .bool true] w fun e w' => e = .returned (.bool true) ∧ Below w.heap.size w w' := drawn_any w hT 0 2 2 true (by decide) chp_dw0 (by decide)
theorem chp_dw64 : dwR chpN [64] = ⟨1, 2, true, 0⟩ := by decide +kernel
theorem drawn64 (w : World) (hT : Tab w) : Calls Tryz.prog 25 #[.int .u8 64, .int .u64 1, .int .i64 2, .bool true] w fun e w' => e = .returned (.bool true) ∧ Below w.heap.size w w' := drawn_any w hT 64 1 2 true (by decide) chp_dw64 (by decide)
theorem chp_dw128 : dwR chpN [128] = ⟨3, 2, true, 0⟩ := by decide +kernel
theorem drawn128 (w : World) (hT : Tab w) : Calls Tryz.prog 25 #[.int .u8 128, .int .u64 3, .int .i64 2, .bool true] w fun e w' => e = .returned (.bool true) ∧ Below w.heap.size w w' := drawn_any w hT 128 3 2 true (by decide) chp_dw128 (by decide)
theorem chp_dw208 : dwR chpN [208] = ⟨1, 4, true, 0⟩ := by decide +kernel
theorem drawn208 (w : World) (hT : Tab w) : Calls Tryz.prog 25 #[.int .u8 208, .int .u64 1, .int .i64 4, .bool true] w fun e w' => e = .returned (.bool true) ∧ Below w.heap.size w w' := drawn_any w hT 208 1 4 true (by decide) chp_dw208 (by decide)
theorem chp_dw255 : dwR chpN [255] = ⟨0, 0, false, 0⟩ := by decide +kernel
theorem drawn255 (w : World) (hT : Tab w) : Calls Tryz.prog 25 #[.int .u8 255, .int .u64 0, .int .i64 0, .bool false] w fun e w' => e = .returned (.bool true) ∧ Below w.heap.size w w' := drawn_any w hT 255 0 0 false (by decide) chp_dw255 (by decide)
theorem chp_need : needK chpN = 2 ∧ needE chpN = 0 := by decide +kernel
theorem works_any (w : World) (hT : Tab w) : Calls Tryz.prog 11 #[] w fun e w' => e = .returned (.bool true) ∧ Below w.heap.size w w' := by
 have hcp := chapter_any w
 have hnd : ∀ W g, NtAt W W.heap.size (some ⟨g, 0, none⟩) chpN.l → Tab W → Calls Tryz.prog 14 #[ntV chpN (some ⟨g, 0, none⟩) 5] W fun e w' => e = .returned (.tuple #[.int .i64 2, .int .i64 0]) ∧ Below W.heap.size W w' := fun W g hN hT => by
  have := need_any W chpN (some ⟨g, 0, none⟩) 5 (by decide) hN hT;rw [chp_need.1, chp_need.2] at this;exact this
 have HCP := zqh hcp;have HND := zqh hnd;clear hcp hnd
 go_enter Tryz.func11, Tryz.ntmps11
 go_wp2_with (first
  | (go_at_call 23
     (with_reducible refine HCP.out.mono ?_)
     rintro e w1 ⟨g, rfl, hnt, hb1⟩
     have hT1 := hT.below hb1)
  | (go_at_call 14
     (with_reducible refine (HND.out _ g hnt hT1).mono ?_)
     rintro e w2 ⟨rfl, hb2⟩;have hbl := zqx hb1 hb2 hb1.size
     have hTT := hT.below hbl)
  | (go_at_call 25
     (with_reducible first
       | refine (drawn0 _ hTT).mono ?_
       | refine (drawn64 _ hTT).mono ?_
       | refine (drawn128 _ hTT).mono ?_
       | refine (drawn208 _ hTT).mono ?_
       | refine (drawn255 _ hTT).mono ?_)
     rintro e w3 ⟨rfl, hb3⟩;replace hbl := zqx hbl hb3 hbl.size;replace hTT := hT.below hbl
     clear hb3))
 go_ret
 exact ⟨rfl, hbl⟩
def fewS (N : Nt) (l : Nat) : Bool := fewB N && (decide (N.n ≤ 20) || decide (128 < N.n)) && decide (l ≤ 64)
theorem fewS_any (w : World) (N : Nt) (A Ab : Option Addr) (c lb cb : Nat) (hlen : N.l.length ≤ 140737488355328) (hN : NtAt w w.heap.size A N.l) :
  Calls Tryz.prog 10 #[ntV N A c, .slice Ab lb cb] w fun e w' => e = .returned (.bool (fewS N lb)) ∧ Below w.heap.size w w' := by
 have hfw := fun W hN => few_any W N A c hlen hN;obtain ⟨F, hF⟩ : ∃ F, fewS N lb = F := ⟨_, rfl⟩;rw [hF];unfold fewS at hF;obtain ⟨B, hB⟩ : ∃ B, fewB N = B := ⟨_, rfl⟩;rw [hB] at hfw hF;have HFW := zqh hfw;have HF := zqh hF;clear hfw hB hF;obtain ⟨n, l⟩ := N;have q0 := (Bag.zero w).new #[.int .i64 n, .slice A l.length c] 24 w.heap.size 2 rfl rfl;simp only at HF;cases B
 ·go_enter Tryz.func10, Tryz.ntmps10
  go_wp2_with fail
  refine (HFW.out _ ((hN.below q0.bl).more q0.bl.size)).mono ?_;rintro e w1 ⟨rfl, hb1⟩;have q1 := q0.below hb1;have m1 := q1.is0 0 (by decide) (.int .i64 n) rfl;have m2 := q1.is0 1 (by decide) (.slice A l.length c) rfl;clear hN hlen HFW
  go_wp2_with fail
  go_ret
  have hh := HF.out;rw [Bool.false_and, Bool.false_and] at hh;obtain rfl := hh;exact ⟨rfl, q1.bl⟩
 ·rcases (show n ≤ 20 ∨ 20 < n by omega) with h1 | h1
  ·have d1 : decide (n ≤ 20) = true := decide_eq_true h1;rcases (show lb ≤ 64 ∨ 64 < lb by omega) with h2 | h2
   ·have d2 : decide ((lb : Int) ≤ 64) = true := decide_eq_true (by omega);have d4 : decide (lb ≤ 64) = true := decide_eq_true (by omega)
    go_enter Tryz.func10, Tryz.ntmps10
    go_wp2_with fail
    refine (HFW.out _ ((hN.below q0.bl).more q0.bl.size)).mono ?_;rintro e w1 ⟨rfl, hb1⟩;have q1 := q0.below hb1;have m1 := q1.is0 0 (by decide) (.int .i64 n) rfl;have m2 := q1.is0 1 (by decide) (.slice A l.length c) rfl;clear hN hlen HFW
    go_wp2_with fail
    go_ret
    have hh := HF.out;rw [d1, d4, Bool.true_or, Bool.true_and, Bool.true_and] at hh;obtain rfl := hh;exact ⟨rfl, q1.bl⟩
   ·have d2 : decide ((lb : Int) ≤ 64) = false := decide_eq_false (by omega);have d4 : decide (lb ≤ 64) = false := decide_eq_false (by omega)
    go_enter Tryz.func10, Tryz.ntmps10
    go_wp2_with fail
    refine (HFW.out _ ((hN.below q0.bl).more q0.bl.size)).mono ?_;rintro e w1 ⟨rfl, hb1⟩;have q1 := q0.below hb1;have m1 := q1.is0 0 (by decide) (.int .i64 n) rfl;have m2 := q1.is0 1 (by decide) (.slice A l.length c) rfl;clear hN hlen HFW
    go_wp2_with fail
    go_ret
    have hh := HF.out;rw [d1, d4, Bool.and_false] at hh;obtain rfl := hh;exact ⟨rfl, q1.bl⟩
  ·have d1 : decide (n ≤ 20) = false := decide_eq_false (by omega);rcases (show 128 < n ∨ n ≤ 128 by omega) with h3 | h3
   ·have d3 : decide (128 < n) = true := decide_eq_true h3;rcases (show lb ≤ 64 ∨ 64 < lb by omega) with h2 | h2
    ·have d2 : decide ((lb : Int) ≤ 64) = true := decide_eq_true (by omega);have d4 : decide (lb ≤ 64) = true := decide_eq_true (by omega)
     go_enter Tryz.func10, Tryz.ntmps10
     go_wp2_with fail
     refine (HFW.out _ ((hN.below q0.bl).more q0.bl.size)).mono ?_;rintro e w1 ⟨rfl, hb1⟩;have q1 := q0.below hb1;have m1 := q1.is0 0 (by decide) (.int .i64 n) rfl;have m2 := q1.is0 1 (by decide) (.slice A l.length c) rfl;clear hN hlen HFW
     go_wp2_with fail
     go_ret
     have hh := HF.out;rw [d1, d3, d4, Bool.or_true, Bool.true_and, Bool.true_and] at hh;obtain rfl := hh;exact ⟨rfl, q1.bl⟩
    ·have d2 : decide ((lb : Int) ≤ 64) = false := decide_eq_false (by omega);have d4 : decide (lb ≤ 64) = false := decide_eq_false (by omega)
     go_enter Tryz.func10, Tryz.ntmps10
     go_wp2_with fail
     refine (HFW.out _ ((hN.below q0.bl).more q0.bl.size)).mono ?_;rintro e w1 ⟨rfl, hb1⟩;have q1 := q0.below hb1;have m1 := q1.is0 0 (by decide) (.int .i64 n) rfl;have m2 := q1.is0 1 (by decide) (.slice A l.length c) rfl;clear hN hlen HFW
     go_wp2_with fail
     go_ret
     have hh := HF.out;rw [d1, d3, d4, Bool.and_false] at hh;obtain rfl := hh;exact ⟨rfl, q1.bl⟩
   ·have d3 : decide (128 < n) = false := decide_eq_false (by omega)
    go_enter Tryz.func10, Tryz.ntmps10
    go_wp2_with fail
    refine (HFW.out _ ((hN.below q0.bl).more q0.bl.size)).mono ?_;rintro e w1 ⟨rfl, hb1⟩;have q1 := q0.below hb1;have m1 := q1.is0 0 (by decide) (.int .i64 n) rfl;have m2 := q1.is0 1 (by decide) (.slice A l.length c) rfl;clear hN hlen HFW
    go_wp2_with fail
    go_ret
    have hh := HF.out;rw [d1, d3, Bool.or_false, Bool.and_false, Bool.false_and] at hh;obtain rfl := hh;exact ⟨rfl, q1.bl⟩
end Go.Proofs.YtgnobohfnhpkdaaGreatDoor
end
